import Derived.Test.YtoajkmdddjnebaaGreatDoorSymD
set_option linter.unusedSimpArgs false
set_option linter.unusedVariables false
namespace Go.Eng
section
variable {C:Cx} {σ:SS} {s:St} {g:Gh} {A:Nat->Prop}
def FRw (C:Cx) (fl:Bool) (base:List Nat) (kr:KR) (kp:KP) (σ:SS) (s:St) (g:Gh) (A:Nat->Prop):FOut->Prop
 | .returned v u s'=>∃a su σ' g' A',kr a su σ'/\RV s'.heap g' σ'.next a v/\RM s'.heap g' σ'.next su u/\Sim C σ' s' g' A'/\Wx fl base σ s g A σ' s' g' A'
 | .panicked ch u s'=>∃c su σ' g' A',kp c su σ'/\RC s'.heap g' σ'.next c ch/\RM s'.heap g' σ'.next su u/\Sim C σ' s' g' A'/\Wx fl base σ s g A σ' s' g' A'
 | .fail=>False
theorem FRw.trans {fl:Bool} {base:List Nat} {kr:KR} {kp:KP} {σ':SS} {s':St} {g':Gh} {A':Nat->Prop} (hs:Sim C σ s g A) (hx:Wx fl base σ s g A σ' s' g' A') {out:FOut} (h:FRw C fl base kr kp σ' s' g' A' out):FRw C fl base kr kp σ s g A out:=by
 cases out with
 | fail=>exact h
 | returned v u s2=>obtain ⟨a,su,σ2,g2,A2,h1,h2,h3,h4,h5⟩:=h;exact ⟨a,su,σ2,g2,A2,h1,h2,h3,h4,hx.trans hs h5⟩
 | panicked v u s2=>obtain ⟨a,su,σ2,g2,A2,h1,h2,h3,h4,h5⟩:=h;exact ⟨a,su,σ2,g2,A2,h1,h2,h3,h4,hx.trans hs h5⟩
theorem FRw.fr {base:List Nat} {kr:KR} {kp:KP} {out:FOut} (h:FRw C true base kr kp σ s g A out):FR C kr kp σ s g A out:=by
 cases out with
 | fail=>exact h
 | returned v u s2=>obtain ⟨a,su,σ2,g2,A2,h1,h2,h3,h4,h5⟩:=h;exact ⟨a,su,σ2,g2,A2,h1,h2,h3,h4,h5.xt rfl⟩
 | panicked v u s2=>obtain ⟨a,su,σ2,g2,A2,h1,h2,h3,h4,h5⟩:=h;exact ⟨a,su,σ2,g2,A2,h1,h2,h3,h4,h5.xt rfl⟩
theorem results_ok (hs:Sim C σ s g A) {e:SE} {e':E} (he:RE s.heap g σ.next e e'):∀{rs:List ResultVar} {k:List SV->Prop},resultsW C e σ rs k->
 ∃l vs,resultsA C e' s rs=some vs/\RL s.heap g σ.next l vs/\k l
 | [],k,h=>⟨[],[],rfl,.nil,h⟩
 | .tmp t::r,k,h=>by
   simp only [resultsW] at h
   split at h
   · exact h.elim
   · rename_i v hno hv
     obtain ⟨w,h1,h2⟩:=he.tmps t v hv
     obtain ⟨l,vs,h3,h4,h5⟩:=results_ok hs he h
     exact ⟨v::l,w::vs,by simp only [resultsA,h1,h3,Option.map_some],.cons h2 h4,h5⟩
   · exact h.elim
 | .cell a t::r,k,h=>by
   simp only [resultsW] at h
   split at h
   · rename_i p hp
     split at h
     · rename_i ps v hv
       obtain ⟨hps,hk⟩:=allP_iff.1 h
       obtain ⟨w,h1,h2⟩:=he.tmps a p hp
       obtain ⟨x,h6,h7⟩:=load_rel hs h2 hv hps
       obtain ⟨l,vs,h3,h4,h5⟩:=results_ok hs he hk
       exact ⟨v::l,x::vs,by simp only [resultsA,h1,h6,h3,Option.map_some],.cons h7 h4,h5⟩
     · exact h.elim
   · exact h.elim
theorem tuple_rel {h:T Blk} {N:Nat} {l:List SV} {vs:List Value} (hl:RL h g N l vs):RV h g N (tupleS l) (tupleOf vs):=by
 match l,vs,hl with
 | [],[],hl=>exact .tup [] [] rfl hl.2
 | [a],[v],hl=>exact hl.2 0 a v rfl rfl
 | a::b::l,v::w::vs,hl=>exact .tup _ _ hl.1 hl.2
 | [],_::_,hl=>exact absurd hl.1 (by simp)
 | _::_,[],hl=>exact absurd hl.1 (by simp)
 | [_],_::_::_,hl=>exact absurd hl.1 (by simp)
 | _::_::_,[_],hl=>exact absurd hl.1 (by simp)
theorem RC.nogo {h:T Blk} {N:Nat}:∀{c:SChain} {ch:List PanicEntry},RC h g N c ch->ch.dropWhile (!·.goexit)=[]
 | [],[],_=>rfl
 | (a,b)::r,p::r',hv=>by
   have:=hv.2.2.1
   rw [List.dropWhile_cons,this]
   simp only [Bool.not_false,if_true]
   exact RC.nogo hv.2.2.2
theorem settle_rel {h:T Blk} {N:Nat} {su:SMode} {u:FrameMode} (hu:RM h g N su u):RM h g N (settleS su) (settleA u):=by
 cases su with
 | run=>cases u<;>simp only [RM] at hu;exact trivial
 | returning=>cases u<;>simp only [RM] at hu;exact trivial
 | panicking c=>
   cases u<;>simp only [RM] at hu
   rename_i ch
   cases c with
   | nil=>cases ch with
     | nil=>exact hu
     | cons p r=>exact hu.elim
   | cons a r=>
     obtain ⟨a,b⟩:=a
     cases ch with
     | nil=>exact hu.elim
     | cons p r'=>
       obtain ⟨v,pr,pg⟩:=p
       obtain ⟨h1,h2,h3,h4⟩:=hu
       simp only at h2 h3
       subst h2
       cases pr with
       | false=>exact ⟨h1,rfl,h3,h4⟩
       | true=>simp only [settleS,settleA,h4.nogo,RM]
theorem RC.app {h:T Blk} {N:Nat}:∀{c:SChain} {ch:List PanicEntry} {d:SChain} {dh:List PanicEntry},RC h g N c ch->RC h g N d dh->RC h g N (c++d) (ch++dh)
 | [],[],_,_,_,h2=>h2
 | (a,b)::r,p::r',_,_,hv,h2=>⟨hv.1,hv.2.1,hv.2.2.1,RC.app hv.2.2.2 h2⟩
theorem raised_rel {h:T Blk} {N:Nat} {su:SMode} {u:FrameMode} {c:SChain} {ch:List PanicEntry} (hu:RM h g N su u) (hc:RC h g N c ch):RM h g N (raisedS su c) (raisedA u ch):=by
 cases su<;>cases u<;>simp only [RM] at hu<;>simp only [raisedS,raisedA,RM]
 · exact hc
 · exact hc
 · exact hc.app hu
theorem leave_ok {rw:SRec} (hrec:RecWOk C rw) {fn:Func} {kr:KR} {kp:KP} {e:SE} {e':E} {su0:SMode} {u0:FrameMode}:∀(n:Nat) {ds:List SDef} {ds':List Deferred} {m:SMode} {m':FrameMode} {σ:SS} {s:St} {g:Gh} {A:Nat->Prop},
 leaveW C rw fn su0 e kr kp n ds m σ->Sim C σ s g A->RE s.heap g σ.next e e'->RDs s.heap g σ.next ds ds'->RM s.heap g σ.next m m'->RM s.heap g σ.next su0 u0->
 ∃out M,(∀n,M<=n->∀q,M<=q->leaveA C (recOf C n) fn u0 e' q ds' m' s=out)/\FRw C true [] kr kp σ s g A out
 | 0,_,_,_,_,_,_,_,_,h,_,_,_,_,_=>h.elim
 | n+1,[],ds',m,m',σ,s,g,A,h,hs,he,hd,hm,hu=>by
   cases ds' with
   | cons d r=>exact hd.elim
   | nil=>
     cases m with
     | run=>exact h.elim
     | returning=>
       cases m'<;>simp only [RM] at hm
       obtain ⟨l,vs,h1,h2,h3⟩:=results_ok hs he h
       refine ⟨.returned (tupleOf vs) u0 s,1,fun n hn q hq=> ?_,_,su0,σ,g,A,h3,tuple_rel h2,hu,hs,.refl⟩
       obtain ⟨q,rfl⟩:∃r,q=r+1:=⟨q-1,by omega⟩
       simp only [leaveA,h1]
     | panicking c=>
       cases m'<;>simp only [RM] at hm
       rename_i ch
       refine ⟨.panicked ch u0 s,1,fun n hn q hq=> ?_,_,su0,σ,g,A,h,hm,hu,hs,.refl⟩
       obtain ⟨q,rfl⟩:∃r,q=r+1:=⟨q-1,by omega⟩
       simp only [leaveA]
 | n+1,d::ds,ds',m,m',σ,s,g,A,h,hs,he,hd,hm,hu=>by
   cases ds' with
   | nil=>exact hd.elim
   | cons d' r=>
     obtain ⟨⟨cap,args,rfl,hcap,hargs⟩,hr⟩:=hd
     have hrun:notRun m'=true:=by
      cases m with
      | run=>exact h.elim
      | returning=>cases m'<;>simp only [RM] at hm;rfl
      | panicking c=>cases m'<;>simp only [RM] at hm;rfl
     have hw:match C.funcs.get d.f with
     | some fn'=>bif fn'.body.isSome then rw.call true d.f (d.args++d.cap) m σ (fun _ m σ=>leaveW C rw fn su0 e kr kp n ds (settleS m) σ) (fun ch m σ=>leaveW C rw fn su0 e kr kp n ds (raisedS m ch) σ)
       else False
     | none=>False:=by
       cases m with
       | run=>exact h.elim
       | returning=>exact h
       | panicking c=>exact h
     split at hw
     · rename_i fn' hfn
       cases hb:fn'.body.isSome with
       | false=>rw [hb] at hw;exact hw.elim
       | true=>
       rw [hb] at hw
       obtain ⟨out,hc,hf⟩:=hrec.call _ _ _ _ _ _ _ hw s g A (args++cap) m' hs (hargs.append hcap) hm
       cases hc with
       | ext v s' i1=>cases i1
       | body fn2 out M i1 i2 i3=>
         have hinv:invokeA C (.fn (.func d.f) ⟨cap⟩) args s= .ok (.enter d.f (args++cap)) s:=by
          simp only [invokeA]
          exact enter_of i1 i2
         cases out with
         | fail=>exact hf.elim
         | returned v u' s'=>
           obtain ⟨a,su',σ',g',A',j1,j2,j3,j4,j5⟩:=hf
           obtain ⟨out2,M2,k1,k2⟩:=leave_ok hrec n j1 j4 (he.mono j5.grow) (hr.mono j5.grow) (settle_rel j3) (hu.mono j5.grow)
           refine ⟨out2,max M M2+1,fun n hn q hq=> ?_,k2.trans hs j5.wx⟩
           obtain ⟨q,rfl⟩:∃r,q=r+1:=⟨q-1,by omega⟩
           simp only [leaveA,hrun,cond_true,hinv,i3 n (by omega)]
           exact k1 n (by omega) q (by omega)
         | panicked ch u' s'=>
           obtain ⟨c,su',σ',g',A',j1,j2,j3,j4,j5⟩:=hf
           obtain ⟨out2,M2,k1,k2⟩:=leave_ok hrec n j1 j4 (he.mono j5.grow) (hr.mono j5.grow) (raised_rel j3 j2) (hu.mono j5.grow)
           refine ⟨out2,max M M2+1,fun n hn q hq=> ?_,k2.trans hs j5.wx⟩
           obtain ⟨q,rfl⟩:∃r,q=r+1:=⟨q-1,by omega⟩
           simp only [leaveA,hrun,cond_true,hinv,i3 n (by omega)]
           exact k1 n (by omega) q (by omega)
     · exact hw.elim
theorem argsT_rel {h:T Blk} {N:Nat}:∀{l:List SV} {vs:List Value} {i:Nat} {t:T SV} {t':T Value},RL h g N l vs->(∀x a,t.get x=some a->∃v,t'.get x=some v/\RV h g N a v)->
 ∀x a,(argsTS l i t).get x=some a->∃v,(argsT vs i t').get x=some v/\RV h g N a v
 | [],vs,i,t,t',hl,ht=>by rw [hl.nil_inv];exact ht
 | a::l,vs,i,t,t',hl,ht=>by
   obtain ⟨v,r,rfl,h1,h2⟩:=hl.cons_inv
   refine argsT_rel (i:=i+1) h2 fun x b hx=> ?_
   rw [T.get_set] at hx ⊢
   split at hx
   · rename_i e;rw [if_pos e]
     cases hx
     exact ⟨v,rfl,h1⟩
   · rename_i e;rw [if_neg e]
     exact ht x b hx
theorem extern_ok (hs:Sim C σ s g A) {name origin:String} {l:List SV} {args:List Value} {k:SV->Prop} (hl:RL s.heap g σ.next l args) (h:externW σ name origin l k):
 ∃a v,externA s name origin args= .ok (.value v) s/\RV s.heap g σ.next a v/\k a/\name= "internal/bytealg.Compare" :=by
 unfold externW at h
 cases hb:(origin== "" &&name== "internal/bytealg.Compare") with
 | false=>rw [hb] at h;exact h.elim
 | true=>
   rw [hb] at h
   simp only [Bool.and_eq_true,beq_iff_eq] at hb
   obtain ⟨rfl,rfl⟩:=hb
   simp only [cond_true] at h
   split at h
   · rename_i a b
     obtain ⟨va,r,rfl,h1,h2⟩:=hl.cons_inv
     obtain ⟨vb,r,rfl,h3,h4⟩:=h2.cons_inv
     rw [h4.nil_inv]
     split at h
     · exact h.elim
     · exact h.elim
     · rename_i hna hnb
       split at h
       · rename_i p x q y hp hq
         obtain ⟨hps,hk⟩:=allP_iff.1 h
         have hp1:PS p:=fun z hz=>hps z (List.mem_append.2 (.inl hz))
         have hq1:PS q:=fun z hz=>hps z (List.mem_append.2 (.inr hz))
         have e1:=rdBytes_rel hs h1 hp hp1
         have e2:=rdBytes_rel hs h3 hq hq1
         obtain ⟨a1,a2,a3,rfl⟩:=rdBytes_shape h1 hp hna
         obtain ⟨b1,b2,b3,rfl⟩:=rdBytes_shape h3 hq hnb
         refine ⟨_,.int .i64 (cmpBytes x y), ?_,.int _ _,hk,rfl⟩
         have n1:(("" :String)== "")=true:=by decide
         have n2:("internal/bytealg.Compare" == "internal/abi.NoEscape")=false:=by decide
         have n3:("internal/bytealg.Compare" == "internal/bytealg.IndexByte")=false:=by decide
         have n4:("internal/bytealg.Compare" == "internal/bytealg.IndexByteString")=false:=by decide
         have n5:("internal/bytealg.Compare" == "internal/bytealg.Compare")=true:=by decide
         have n6:("internal/bytealg.Compare" == "internal/bytealg.Count")=false:=by decide
         have n7:("internal/bytealg.Compare" == "internal/bytealg.CountString")=false:=by decide
         simp only [externA,externV,n1,n2,n3,n4,n5,n6,n7,cond_true,cond_false,Bool.or_false,isSlV,Bool.and_self,e1,e2,bytesOf_map,ovalue]
       · exact h.elim
   · exact h.elim
theorem body_ok {rw:SRec} (hrec:RecWOk C rw) {dfr:Bool} {f:FuncId} (hdraw:∀cf,DrawWOk C rw cf) {fl:Bool} {base:List Nat} {An:Nat->Option Cut} (hAn:fl=true->∀id,An id=none) {n:Nat}
 {l:List SV} {args:List Value} {su:SMode} {u:FrameMode} {kr:KR} {kp:KP} (hs:Sim C σ s g A) (hl:RL s.heap g σ.next l args) (hu:RM s.heap g σ.next su u)
 (h:bodyW C rw base An n dfr f l su σ kr kp):∃out,CallTo C dfr f args u s out/\FRw C fl base kr kp σ s g A out:=by
 unfold bodyW at h
 split at h
 · exact h.elim
 · rename_i fn hfn
   split at h
   · rename_i hb
     cases dfr with
     | true=>exact h.elim
     | false=>
       simp only [cond_false] at h
       obtain ⟨a,v,h1,h2,h3,h4⟩:=extern_ok hs hl h
       refine ⟨.returned v u s,.ext v s rfl ?_,a,su,σ,g,A,h3,h2,hu,hs,.refl⟩
       unfold callFuncA
       rw [hfn]
       simp only [hb]
       have n1:(fn.name== "internal/bytealg.MakeNoZero")=false:=by rw [h4];decide
       rw [n1];exact h1
   · rename_i c hb
     split at h
     · rename_i v hsv
       cases dfr with
       | true=>exact h.elim
       | false=>
       simp only [cond_false] at h
       split at h
       · rename_i a ha
         have hargs:=hl.nil_inv
         subst hargs
         refine ⟨.returned v u s,.body fn _ 1 hfn (by rw [hb];rfl) fun n hn=> ?_,a,su,σ,g,A,h,(ofV_sound v a ha).1,hu,hs,.refl⟩
         obtain ⟨n,rfl⟩:∃r,n=r+1:=⟨n-1,by omega⟩
         show callS C (recOf C n) n false f [] u s=_
         simp only [callS,sureA,hsv]
         cases hnd:C.need with
         | none=>rfl
         | some k=>
           obtain ⟨q1,_,q3⟩:=hs.nd k hnd
           simp only
           rw [q3,show Nat.blt k C.globals=true from by rw [Nat.blt_eq];exact q1]
           rfl
       · exact h.elim
     rename_i hsv
     cases hjn:isJoin C f with
     | true=>rw [hjn] at h;exact h.elim
     | false=>
     rw [hjn] at h
     simp only [cond_false] at h
     cases hle:Nat.ble l.length fn.ntmps with
     | false=>rw [hle] at h;exact h.elim
     | true=>
     rw [hle] at h
     have hle':Nat.ble args.length fn.ntmps=true:=by rw [<-hl.1];exact hle
     have he:RE s.heap g σ.next {tmps:=argsTS l 0 .nil,n:=fn.ntmps,defers:=[]} {tmps:=argsT args 0 .nil,n:=fn.ntmps,defers:=[]}:=
      ⟨rfl,argsT_rel hl (fun x a hx=>by rw [T.get_nil] at hx;cases hx),trivial⟩
     obtain ⟨out,M,h1,h2⟩:=(codeW_sound hrec (hdraw _) hAn n c).run hs he hu h
     have fin:∀{e e' m m' σ' s' g' A' su u2},leaveW C rw fn su e kr kp n e.defers m σ'->Sim C σ' s' g' A'->RE s'.heap g' σ'.next e e'->RM s'.heap g' σ'.next m m'->RM s'.heap g' σ'.next su u2->Wx fl base σ s g A σ' s' g' A'->
      ∃out M,(∀n,M<=n->leaveA C (recOf C n) fn u2 e' n e'.defers m' s'=out)/\FRw C fl base kr kp σ s g A out:=by
      intro e e' m m' σ' s' g' A' su u2 k1 k2 k3 k4 k5 k6
      obtain ⟨out,M,l1,l2⟩:=leave_ok hrec n k1 k2 k3 k3.defers k4 k5
      refine ⟨out,M,fun n hn=>l1 n hn n hn,FRw.trans hs k6 ?_⟩
      cases out with
      | fail=>exact l2
      | returned v u s2=>obtain ⟨a,su,σ2,g2,A2,h1,h2,h3,h4,h5⟩:=l2;exact ⟨a,su,σ2,g2,A2,h1,h2,h3,h4,(h5.xt rfl).wx⟩
      | panicked v u s2=>obtain ⟨a,su,σ2,g2,A2,h1,h2,h3,h4,h5⟩:=l2;exact ⟨a,su,σ2,g2,A2,h1,h2,h3,h4,(h5.xt rfl).wx⟩
     cases out with
     | fail=>exact h2.elim
     | fin x e' u' s'=>
       obtain ⟨sx,se,su',σ',g',A',j1,j2,j3,j4,j5,j6⟩:=h2
       have go:∀{m m'},leaveW C rw fn su' se kr kp n se.defers m σ'->RM s'.heap g' σ'.next m m'->(∀n,codeA C (recOf C n) n ⟨f,dfr,none⟩ c {tmps:=argsT args 0 .nil,n:=fn.ntmps,defers:=[]} u s= .fin x e' u' s'->
        callA C (recOf C n) n dfr f args u s=leaveA C (recOf C n) fn u' e' n e'.defers m' s')->∃out,CallTo C dfr f args u s out/\FRw C fl base kr kp σ s g A out:=by
        intro m m' k1 k2 k3
        obtain ⟨out,M2,l1,l2⟩:=fin k1 j5 j3 k2 j4 j6
        refine ⟨out,.body fn out (max M M2+1) hfn (by rw [hb];rfl) fun n hn=> ?_,l2⟩
        obtain ⟨n,rfl⟩:∃r,n=r+1:=⟨n-1,by omega⟩
        have hns:sureA C dfr f args s=none:=by
         unfold sureA
         split
         · rw [hjn];rfl
         · rw [hsv]
         · rfl
        show callS C (recOf C n) n dfr f args u s=out
        simp only [callS,hns]
        rw [k3 n (h1 n (by omega))]
        exact l1 n (by omega)
       cases sx with
       | normal=>
         have:=j2.normal_inv;subst this
         refine go (m':= .returning) j1 trivial fun n hn=> ?_
         simp only [callA,hfn,hb,hle',cond_true,hn]
       | ret=>
         cases x<;>simp only [RX] at j2
         refine go (m':= .returning) j1 trivial fun n hn=> ?_
         simp only [callA,hfn,hb,hle',cond_true,hn]
       | panic ch=>
         cases x<;>simp only [RX] at j2
         refine go (m':= .panicking _) j1 j2 fun n hn=> ?_
         simp only [callA,hfn,hb,hle',cond_true,hn]
       | exit i=>exact j1.elim
       | goto i=>exact j1.elim
end
end Go.Eng
namespace Go.Eng
section
variable {C:Cx} {σ:SS} {s:St} {g:Gh} {A:Nat->Prop}
def SR (C:Cx) (base:List Nat) (σ:SS) (s:St) (g:Gh) (A:Nat->Prop) (out:FOut):SOut->Prop
 | .ask b t f=>(b=true->SR C base σ s g A out t)/\(b=false->SR C base σ s g A out f)
 | .ex X P f=>∃x:X,P x/\SR C base σ s g A out (f x)
 | .ret w own=>∃v s' g' A',out= .returned v .run s'/\Sim C (SS.ofList own) s' g' A'/\RV s'.heap g' (SS.ofList own).next w v/\Wx false base σ s g A (SS.ofList own) s' g' A'
 | .pan w own=>∃v s' g' A',out= .panicked [{v,recovered:=false}] .run s'/\Sim C (SS.ofList own) s' g' A'/\RV s'.heap g' (SS.ofList own).next w v/\Wx false base σ s g A (SS.ofList own) s' g' A'
def SpecOk (C:Cx) (f:FuncId) (S:FSpec):Prop:=
 ∀x,S.pre x->∀(s:St) (g:Gh) (A:Nat->Prop) (args:List Value),Sim C (SS.ofList (S.own x)) s g A->RL s.heap g (SS.ofList (S.own x)).next (S.args x) args->
  ∃out,CallTo C false f args .run s out/\SR C S.base (SS.ofList (S.own x)) s g A out (S.out x)
theorem end_ok (hs:Sim C σ s g A) {base:List Nat} {w b:SV} {v:Value} {own:List (Nat×SB)} (hv:RV s.heap g σ.next b v)
 (h:entV σ false entF w b (sameRen base) [] fun ρ fr=>entO σ false own ρ fr fun ρ _=>bif renLt ρ (SS.ofList own).next then True else False):
 ∃g' A',Sim C (SS.ofList own) s g' A'/\RV s.heap g' (SS.ofList own).next w v/\Wx false base σ s g A (SS.ofList own) s g' A':=by
 obtain ⟨ρ1,fr1,l1,g1,k1,p1⟩:=entV_ok hs entF w b v _ _ _ h hv (sameRen_good base)
 obtain ⟨ρ2,fr2,e2⟩:=entO_ok hs k1 g1
 have hlt:renLt ρ2 (SS.ofList own).next=true:=by
  cases hb:renLt ρ2 (SS.ofList own).next with
  | true=>rfl
  | false=>have:=e2.k;rw [hb] at this;exact this.elim
 have hF:=newG_fin (g:=g) (bor:=false) (fr:=fr2) hlt
 refine ⟨newG g false ρ2 fr2,fun id=>A id\/∃x,x∈fr2/\g.ι x=some id, ?_,p1 _ _ (hF.le e2.le),⟨⟨fun _ h=> .inl h,Nat.le_refl _,hF.H,hF.F,fun id h=> ?_,fun _ _=>rfl⟩,fun id h=> ?_,fun l o id hl hi=> ?_,fun l hl hlσ=> ?_,fun h=>by cases h⟩⟩
 · refine newState hs e2.good e2.ids (e2.fin _ _ hF) (fun id h=> ?_) (fun id h=> .inl h) (fun x hx id h=> .inr ⟨x,hx,h⟩)
   rcases h with h | ⟨x,hx,h⟩
   · exact .inl h
   · obtain ⟨o,ho⟩:=e2.good.own x hx
     exact .inr ⟨x,o,ho,h,fun l hl=>e2.good.off l x hl hx⟩
 · rcases h with h | h
   · exact .inl h
   · exact .inr (.inr ⟨rfl,h⟩)
 · rcases h with h | ⟨_,x,hx,h⟩
   · exact .inl h
   · obtain ⟨o,ho⟩:=e2.good.own x hx
     exact .inr (.inr ⟨x,o,ho,h⟩)
 · obtain ⟨b,hb,rfl⟩:=ofList_get hl
   obtain ⟨t,ht,ht2⟩:=e2.ids _ hb
   rw [newG_ι ht] at hi
   cases t with
   | none=>cases hi
   | some y=>obtain ⟨oy,hy⟩:=ht2 y rfl;exact .inr ⟨y,oy,hy,hi⟩
 · have h3:=e2.le.ρ _ _ (l1.ρ _ _ (sameRen_get.1 hl))
   have:=hF.ι l (some l) h3
   exact ⟨this.2,this.1⟩
theorem endW_ok {base:List Nat} {σ0:SS} {s0:St} {g0:Gh} {A0:Nat->Prop} (hs0:Sim C σ0 s0 g0 A0) (hs:Sim C σ s g A) (hx:Wx false base σ0 s0 g0 A0 σ s g A) {b:SV} {v:Value} (hv:RV s.heap g σ.next b v):∀{o:SOut},endW base b σ o->SR C base σ0 s0 g0 A0 (.returned v .run s) o
 | .ask c t f,h=>by
   simp only [endW] at h
   rw [ask_iff] at h
   exact ⟨fun e=>endW_ok hs0 hs hx hv (h.1 e),fun e=>endW_ok hs0 hs hx hv (h.2 e)⟩
 | .ex X P f,h=>by
   obtain ⟨x,hx1,h⟩:=h
   exact ⟨x,hx1,endW_ok hs0 hs hx hv h⟩
 | .ret w own,h=>by
   obtain ⟨g',A',h1,h2,h3⟩:=end_ok hs hv h
   exact ⟨v,s,g',A',rfl,h1,h2,hx.trans hs0 h3⟩
 | .pan w own,h=>h.elim
theorem endP_ok {base:List Nat} {σ0:SS} {s0:St} {g0:Gh} {A0:Nat->Prop} (hs0:Sim C σ0 s0 g0 A0) (hs:Sim C σ s g A) (hx:Wx false base σ0 s0 g0 A0 σ s g A) {b:SV} {v:Value} (hv:RV s.heap g σ.next b v):∀{o:SOut},endP base b σ o->SR C base σ0 s0 g0 A0 (.panicked [{v,recovered:=false}] .run s) o
 | .ask c t f,h=>by
   simp only [endP] at h
   rw [ask_iff] at h
   exact ⟨fun e=>endP_ok hs0 hs hx hv (h.1 e),fun e=>endP_ok hs0 hs hx hv (h.2 e)⟩
 | .ex X P f,h=>by
   obtain ⟨x,hx1,h⟩:=h
   exact ⟨x,hx1,endP_ok hs0 hs hx hv h⟩
 | .pan w own,h=>by
   obtain ⟨g',A',h1,h2,h3⟩:=end_ok hs hv h
   exact ⟨v,s,g',A',rfl,h1,h2,hx.trans hs0 h3⟩
 | .ret w own,h=>h.elim
theorem spec_of {Sp:List (Nat×FSpec)} {f:FuncId} {S:FSpec} {An:S.X->Nat->Option Cut} {n:Nat} (hrec:RecWOk C (recW C Sp n)) (hdraw:∀cf,DrawWOk C (recW C Sp n) cf) (h:FnVC C Sp f S An n):SpecOk C f S:=by
 intro x hx s g A args hs hl
 obtain ⟨out,h1,h2⟩:=body_ok hrec hdraw (fl:=false) (fun e=>by cases e) hs hl (u:= .run) (su:= .run) trivial (h x hx)
 refine ⟨out,h1, ?_⟩
 cases out with
 | fail=>exact h2.elim
 | returned v u s'=>
   obtain ⟨a,su,σ',g',A',j1,j2,j3,j4,j5⟩:=h2
   cases su with
   | run=>cases u<;>simp only [RM] at j3;exact endW_ok hs j4 j5 j2 j1
   | returning=>exact j1.elim
   | panicking c=>exact j1.elim
 | panicked ch u s'=>
   obtain ⟨c,su,σ',g',A',j1,j2,j3,j4,j5⟩:=h2
   cases su with
   | returning=>exact j1.elim
   | panicking c=>exact j1.elim
   | run=>
     cases u<;>simp only [RM] at j3
     simp only at j1
     split at j1
     · rename_i v hv
       unfold oneChain at hv
       split at hv
       · cases hv
         cases ch with
         | nil=>exact j2.elim
         | cons p r=>
           obtain ⟨k1,k2,k3,k4⟩:=j2
           cases r with
           | cons p2 r2=>exact k4.elim
           | nil=>
             obtain ⟨pv,pr,pg⟩:=p
             simp only at k2 k3
             subst k2 k3
             exact endP_ok hs j4 j5 k1 j1
       · cases hv
     · exact j1.elim
theorem EmpR.toF {h:T Blk} {g g2:Gh} (hF:∀id,g.F id->g2.F id) {r:Nat} (hH:(∀id,g.H id->g2.H id)\/r≠0) {v:Value} (hv:EmpR h g r v):EmpR h g2 r v:=by
 rcases hv with ⟨id,off,cap,cs,e,st,par,h1,h2,h3⟩ | h
 · refine .inl ⟨id,off,cap,cs,e,st,par,h1, ?_,h3⟩
   cases r with
   | zero=>exact hH.elim (fun h=>h id h2) fun h=>absurd rfl h
   | succ r=>exact hF id h2
 · exact .inr h
theorem In.toF {g g2:Gh} (hF:∀id,g.F id->g2.F id) {r:Nat} (hH:(∀id,g.H id->g2.H id)\/r≠0) {id:Nat} (hv:g.In r id):g2.In r id:=by
 cases r with
 | zero=>exact hH.elim (fun h=>h id hv) fun h=>absurd rfl h
 | succ r=>exact hF id hv
theorem noBorL_get:∀{l:List SV} {j:Nat} {a:SV},noBorL l->l[j]? =some a->noBor a
 | b::r,0,a,h,e=>by simp at e;subst e;exact h.1
 | b::r,j+1,a,h,e=>noBorL_get h.2 (by simpa using e)
theorem renL_eq (ρ:Ren):∀(l:List SV),renL ρ l=l.map (renV ρ)
 | []=>by simp only [renL,List.map_nil]
 | a::r=>by simp only [renL,List.map_cons,renL_eq ρ r]
theorem RV.ren {h:T Blk} {g:Gh} {N:Nat} {a:SV} {v:Value} (hv:RV h g N a v):∀{g2:Gh} {N2:Nat} {ρ:Ren},(∀id,g.F id->g2.F id)->((∀id,g.H id->g2.H id)\/noBor a)->
 ((∀l l',renGet ρ l=some (some l')->l'<N2/\g2.ι l'=g.ι l)->RV h g2 N2 (renV ρ a) v)/\((∀l,l<N->g2.ι l=g.ι l)->N<=N2->RV h g2 N2 a v):=by
 induction hv with
 | bool b=>exact fun _ _=>⟨fun _=> .bool b,fun _ _=> .bool b⟩
 | int k n=>exact fun _ _=>⟨fun _=> .int k n,fun _ _=> .int k n⟩
 | str l=>exact fun _ _=>⟨fun _=> .str l,fun _ _=> .str l⟩
 | bytes r nn l id off cap cs e st par h1 h2 h3 h4=>
   intro g2 N2 ρ hF hH
   exact ⟨fun _=> .bytes r nn l id off cap cs e st par (In.toF hF hH h1) h2 h3 h4,fun _ _=> .bytes r nn l id off cap cs e st par (In.toF hF hH h1) h2 h3 h4⟩
 | bytesE r nn v h=>exact fun hF hH=>⟨fun _=> .bytesE r nn v (h.toF hF hH),fun _ _=> .bytesE r nn v (h.toF hF hH)⟩
 | bytesN r=>exact fun _ _=>⟨fun _=> .bytesN r,fun _ _=> .bytesN r⟩
 | imm r nn n sz f id off cap cs e st par vs h1 h2 h3 h4 h5 h6 h7 ih=>
   intro g2 N2 ρ hF hH
   have el:∀(i j:Nat) (a:SV),i<n->(f i)[j]? =some a->RV h g2.frz 0 a (vs i j):=fun i j a hi ha=>
    (ih i j a hi ha (g2:=g2.frz) (N2:=0) (ρ:=[]) hF (hH.imp (fun h=>h) fun h=>noBorL_get (h.2 i hi) ha)).2 (fun l hl=>absurd hl (Nat.not_lt_zero _)) (Nat.le_refl _)
   have hH':(∀id,_->g2.H id)\/r≠0:=hH.imp (fun h=>h) fun h=>h.1
   exact ⟨fun _=> .imm r nn n sz f id off cap cs e st par vs (In.toF hF hH' h1) h2 h3 h4 h5 el h7,fun _ _=> .imm r nn n sz f id off cap cs e st par vs (In.toF hF hH' h1) h2 h3 h4 h5 el h7⟩
 | immE r nn sz f v h=>
   intro g2 N2 ρ hF hH
   have hH':(∀id,_->g2.H id)\/r≠0:=hH.imp (fun h=>h) fun h=>h.1
   exact ⟨fun _=> .immE r nn sz f v (h.toF hF hH'),fun _ _=> .immE r nn sz f v (h.toF hF hH')⟩
 | immN r sz f=>exact fun _ _=>⟨fun _=> .immN r sz f,fun _ _=> .immN r sz f⟩
 | nilS=>exact fun _ _=>⟨fun _=> .nilS,fun _ _=> .nilS⟩
 | empS v h=>
   intro g2 N2 ρ hF hH
   have hH':(∀id,_->g2.H id)\/(0:Nat)≠0:=hH.imp (fun h=>h) fun h=>h.elim
   exact ⟨fun _=> .empS v (h.toF hF hH'),fun _ _=> .empS v (h.toF hF hH')⟩
 | sl id sz off len c op eid h1 h2 h3=>
   intro g2 N2 ρ hF hH
   refine ⟨fun hr=> ?_,fun hi hn=> .sl id sz off len c op eid (Nat.lt_of_lt_of_le h1 hn) ((hi id h1).trans h2) h3⟩
   simp only [renV]
   split
   · rename_i l' hl
     obtain ⟨k1,k2⟩:=hr _ _ hl
     exact .sl l' sz off len c op eid k1 (k2.trans h2) h3
   · exact .undef _
 | slN id sz off h1 h2=>
   intro g2 N2 ρ hF hH
   refine ⟨fun hr=> ?_,fun hi hn=> .slN id sz off (Nat.lt_of_lt_of_le h1 hn) ((hi id h1).trans h2)⟩
   simp only [renV]
   split
   · rename_i l' hl
     obtain ⟨k1,k2⟩:=hr _ _ hl
     exact .slN l' sz off k1 (k2.trans h2)
   · exact .undef _
 | ptr id sz i j eid h1 h2=>
   intro g2 N2 ρ hF hH
   refine ⟨fun hr=> ?_,fun hi hn=> .ptr id sz i j eid (Nat.lt_of_lt_of_le h1 hn) ((hi id h1).trans h2)⟩
   simp only [renV]
   split
   · rename_i l' hl
     obtain ⟨k1,k2⟩:=hr _ _ hl
     exact .ptr l' sz i j eid k1 (k2.trans h2)
   · exact .undef _
 | ip l id off cs e st par vs h1 h2 h3 h4 h5 ih=>
   intro g2 N2 ρ hF hH
   have hH':∀id,_->g2.H id:=hH.elim (fun h=>h) fun h=>h.elim
   have el:∀(j:Nat) (a:SV) (v:Value),l[j]? =some a->vs[j]? =some v->RV h g2.frz 0 a v:=fun j a v ha hv=>
    (ih j a v ha hv (g2:=g2.frz) (N2:=0) (ρ:=[]) hF (.inl hH')).2 (fun l hl=>absurd hl (Nat.not_lt_zero _)) (Nat.le_refl _)
   exact ⟨fun _=> .ip l id off cs e st par vs (hH' _ h1) h2 h3 h4 el,fun _ _=> .ip l id off cs e st par vs (hH' _ h1) h2 h3 h4 el⟩
 | nilP=>exact fun _ _=>⟨fun _=> .nilP,fun _ _=> .nilP⟩
 | agg l vs h1 h2 ih=>
   intro g2 N2 ρ hF hH
   have nb:∀(j:Nat) (a:SV),l[j]? =some a->(∀id,_->g2.H id)\/noBor a:=fun j a ha=>hH.imp (fun h=>h) fun h=>noBorL_get h ha
   refine ⟨fun hr=> ?_,fun hi hn=> .agg l vs h1 fun j a v ha hv=>(ih j a v ha hv hF (nb j a ha) (ρ:=ρ)).2 hi hn⟩
   simp only [renV,renL_eq]
   refine .agg _ vs (by simp [h1]) fun j a v ha hv=> ?_
   rw [List.getElem?_map,Option.map_eq_some_iff] at ha
   obtain ⟨b,hb,rfl⟩:=ha
   exact (ih j b v hb hv hF (nb j b hb)).1 hr
 | tup l vs h1 h2 ih=>
   intro g2 N2 ρ hF hH
   have nb:∀(j:Nat) (a:SV),l[j]? =some a->(∀id,_->g2.H id)\/noBor a:=fun j a ha=>hH.imp (fun h=>h) fun h=>noBorL_get h ha
   refine ⟨fun hr=> ?_,fun hi hn=> .tup l vs h1 fun j a v ha hv=>(ih j a v ha hv hF (nb j a ha) (ρ:=ρ)).2 hi hn⟩
   simp only [renV,renL_eq]
   refine .tup _ vs (by simp [h1]) fun j a v ha hv=> ?_
   rw [List.getElem?_map,Option.map_eq_some_iff] at ha
   obtain ⟨b,hb,rfl⟩:=ha
   exact (ih j b v hb hv hF (nb j b hb)).1 hr
 | fn f a c va vc h1 h2 h3 h4 ih1 ih2=>
   intro g2 N2 ρ hF hH
   have nb1:∀(j:Nat) (x:SV),a[j]? =some x->(∀id,_->g2.H id)\/noBor x:=fun j x ha=>hH.imp (fun h=>h) fun h=>noBorL_get h.1 ha
   have nb2:∀(j:Nat) (x:SV),c[j]? =some x->(∀id,_->g2.H id)\/noBor x:=fun j x ha=>hH.imp (fun h=>h) fun h=>noBorL_get h.2 ha
   refine ⟨fun hr=> ?_,fun hi hn=> .fn f a c va vc h1 (fun j a v ha hv=>(ih1 j a v ha hv hF (nb1 j a ha) (ρ:=ρ)).2 hi hn) h3 (fun j a v ha hv=>(ih2 j a v ha hv hF (nb2 j a ha) (ρ:=ρ)).2 hi hn)⟩
   simp only [renV,renL_eq]
   refine .fn f _ _ va vc (by simp [h1]) (fun j x v ha hv=> ?_) (by simp [h3]) (fun j x v ha hv=> ?_)
   · rw [List.getElem?_map,Option.map_eq_some_iff] at ha
     obtain ⟨b,hb,rfl⟩:=ha
     exact (ih1 j b v hb hv hF (nb1 j b hb)).1 hr
   · rw [List.getElem?_map,Option.map_eq_some_iff] at ha
     obtain ⟨b,hb,rfl⟩:=ha
     exact (ih2 j b v hb hv hF (nb2 j b hb)).1 hr
 | nilF=>exact fun _ _=>⟨fun _=> .nilF,fun _ _=> .nilF⟩
 | ifc t a v h ih=>
   intro g2 N2 ρ hF hH
   have:=ih (g2:=g2) (N2:=N2) (ρ:=ρ) hF (hH.imp (fun h=>h) fun h=>h)
   exact ⟨fun hr=> .ifc t _ v (this.1 hr),fun hi hn=> .ifc t a v (this.2 hi hn)⟩
 | nilI=>exact fun _ _=>⟨fun _=> .nilI,fun _ _=> .nilI⟩
 | nilM=>exact fun _ _=>⟨fun _=> .nilM,fun _ _=> .nilM⟩
 | may b a v h h2 ih=>
   intro g2 N2 ρ hF hH
   exact ⟨fun _=> .undef v,fun hi hn=> .may b a v (fun e=>(ih e hF (hH.elim .inl fun h=>h.elim) (ρ:=ρ)).2 hi hn) h2⟩
 | undef v=>exact fun _ _=>⟨fun _=> .undef v,fun _ _=> .undef v⟩
theorem RB.ren {h:T Blk} {g g2:Gh} {N N2:Nat} {ρ:Ren} {b:SB} {blk:Blk} (hb:RB h g N b blk) (hF:∀id,g.F id->g2.F id) (hH:(∀id,g.H id->g2.H id)\/noBorB b)
 (hr:∀l l',renGet ρ l=some (some l')->l'<N2/\g2.ι l'=g.ι l):RB h g2 N2 (renB ρ b) blk:=by
 cases hb with
 | cells vs cs t par h1 h2=>
   simp only [renB,renL_eq]
   refine .cells _ cs t par ⟨by simp [h1.1],fun j a v ha hv=> ?_⟩ h2
   rw [List.getElem?_map,Option.map_eq_some_iff] at ha
   obtain ⟨b,hb,rfl⟩:=ha
   exact ((h1.2 j b v hb hv).ren hF (hH.imp (fun h=>h) fun h=>noBorL_get h hb)).1 hr
 | bytes l t par=>exact .bytes l t par
 | arr n sz f t cs par h1 h2 h3 h4=>
   refine .arr n sz f t cs par h1 h2 h3 fun i j a v hi ha hv=> ?_
   exact ((h4 i j a v hi ha hv).ren (g2:=g2.frz) (N2:=0) (ρ:=[]) hF (hH.imp (fun h=>h) fun h=>noBorL_get (h i hi) ha)).2 (fun l hl=>absurd hl (Nat.not_lt_zero _)) (Nat.le_refl _)
structure NewIds (ρ:Ren) (n:Nat) (own:List (Nat×SB)) (ρ':Ren) (n':Nat):Prop where
 le:n<=n'
 old:∀l t,renGet ρ l=some (some t)->renGet ρ' l=some (some t)
 new:∀l t,renGet ρ' l=some (some t)->renGet ρ l=some (some t)\/(n<=t/\t<n')
 inj:∀l l' t,renGet ρ' l=some (some t)->renGet ρ' l'=some (some t)->n<=t->l=l'
 all:∀p,p∈own->∃t,renGet ρ' p.1=some (some t)
theorem newIds_ok:∀(own:List (Nat×SB)) (ρ:Ren) (n:Nat),(∀l t,renGet ρ l=some (some t)->t<n)->NewIds ρ n own (newIds own ρ n).1 (newIds own ρ n).2
 | [],ρ,n,h=>⟨Nat.le_refl _,fun _ _ h=>h,fun _ _ h=> .inl h,fun l l' t h1 _ h3=>absurd (h l t h1) (by omega),fun p hp=>by cases hp⟩
 | (l,b)::r,ρ,n,h=>by
   simp only [newIds]
   split
   · rename_i t hl
     have ih:=newIds_ok r ρ n h
     refine ⟨ih.le,ih.old,ih.new,ih.inj,fun p hp=> ?_⟩
     rcases List.mem_cons.1 hp with rfl | hp
     · exact ⟨t,ih.old _ _ hl⟩
     · exact ih.all p hp
   · rename_i hno
     have h2:∀l' t,renGet ((l,some n)::ρ) l'=some (some t)->t<n+1:=by
      intro l' t ht
      rw [renGet_cons] at ht
      split at ht
      · cases ht;omega
      · have:=h l' t ht;omega
     have ih:=newIds_ok r ((l,some n)::ρ) (n+1) h2
     have hn:renGet (newIds r ((l,some n)::ρ) (n+1)).1 l=some (some n):=ih.old l n (by rw [renGet_cons,if_pos rfl])
     refine ⟨by have:=ih.le;omega,fun l' t ht=> ?_,fun l' t ht=> ?_,fun a b t ha hb ht=> ?_,fun p hp=> ?_⟩
     · refine ih.old l' t ?_
       rw [renGet_cons,if_neg]
       · exact ht
       · rintro rfl;exact hno t ht
     · rcases ih.new l' t ht with h3 | h3
       · rw [renGet_cons] at h3
         split at h3
         · cases h3;have:=ih.le;exact .inr ⟨Nat.le_refl _,by omega⟩
         · exact .inl h3
       · exact .inr ⟨by omega,h3.2⟩
     · by_cases hnt:n+1<=t
       · exact ih.inj a b t ha hb hnt
       · have e:t=n:=by omega
         subst e
         have one:∀a,renGet (newIds r ((l,some t)::ρ) (t+1)).1 a=some (some t)->a=l:=by
          intro a ha
          rcases ih.new a t ha with h3 | h3
          · rw [renGet_cons] at h3
            split at h3
            · rename_i e;exact e.symm
            · have:=h a t h3;omega
          · omega
         rw [one a ha,one b hb]
     · rcases List.mem_cons.1 hp with rfl | hp
       · exact ⟨n,hn⟩
       · exact ih.all p hp
theorem setsO_other:∀{l:List (Nat×SB)} {t:T SO} {i:Nat},(∀p,p∈l->p.1≠i)->(setsO l t).get i=t.get i
 | [],t,i,h=>rfl
 | (l,b)::r,t,i,h=>by
   simp only [setsO]
   rw [setsO_other fun p hp=>h p (List.mem_cons_of_mem _ hp),T.get_set,if_neg]
   exact fun e=>h _ (List.mem_cons_self ..) e.symm
theorem putOwn_ok {ρ:Ren}:∀(own:List (Nat×SB)) (t t0:T SO) (n:Nat),n<=(putOwn ρ own t n).2/\∀l' o,(putOwn ρ own t n).1.get l'=some o->
 (∃l b k,renGet ρ l=some (some l')/\(setsO own t0).get l=some ⟨l,b⟩/\o=⟨k,renB ρ b⟩/\n<=k/\k<(putOwn ρ own t n).2/\∃p,p∈own/\p.1=l)\/(t.get l'=some o/\∀p,p∈own->renGet ρ p.1≠some (some l'))
 | [],t,t0,n=>⟨Nat.le_refl _,fun l' o h=> .inr ⟨h,fun p hp=>by cases hp⟩⟩
 | (l,b)::r,t,t0,n=>by
   simp only [putOwn]
   split
   · rename_i l2 hl
     obtain ⟨ih1,ih⟩:=putOwn_ok (ρ:=ρ) r (t.set l2 ⟨n,renB ρ b⟩) (t0.set l ⟨l,b⟩) (n+1)
     refine ⟨by omega,fun l' o h=> ?_⟩
     rcases ih l' o h with ⟨l3,b3,k,h1,h2,h3,h4,h5,p,hp,h6⟩ | ⟨h1,h2⟩
     · exact .inl ⟨l3,b3,k,h1,h2,h3,by omega,h5,p,List.mem_cons_of_mem _ hp,h6⟩
     · rw [T.get_set] at h1
       split at h1
       · rename_i e
         subst e
         cases h1
         refine .inl ⟨l,b,n,hl, ?_,rfl,Nat.le_refl _,by omega,_,List.mem_cons_self ..,rfl⟩
         simp only [setsO]
         rw [setsO_other,T.get_set,if_pos rfl]
         rintro p hp rfl
         exact h2 p hp hl
       · rename_i e
         refine .inr ⟨h1,fun p hp=> ?_⟩
         rcases List.mem_cons.1 hp with rfl | hp
         · rw [hl];rintro h;cases h;exact e rfl
         · exact h2 p hp
   · rename_i hno
     obtain ⟨ih1,ih⟩:=putOwn_ok (ρ:=ρ) r t (t0.set l ⟨l,b⟩) n
     refine ⟨ih1,fun l' o h=> ?_⟩
     rcases ih l' o h with ⟨l3,b3,k,h1,h2,h3,h4,h5,p,hp,h6⟩ | ⟨h1,h2⟩
     · exact .inl ⟨l3,b3,k,h1,h2,h3,h4,h5,p,List.mem_cons_of_mem _ hp,h6⟩
     · refine .inr ⟨h1,fun p hp=> ?_⟩
       rcases List.mem_cons.1 hp with rfl | hp
       · exact hno l'
       · exact h2 p hp
theorem dropOwn_ok:∀(ρ:Ren) (t:T SO) (l:Nat) (o:SO),(dropOwn ρ t).get l=some o->t.get l=some o/\renHas ρ l=false
 | [],t,l,o,h=>⟨h,rfl⟩
 | (a,some b)::r,t,l,o,h=>by
   simp only [dropOwn] at h
   obtain ⟨h1,h2⟩:=dropOwn_ok r _ l o h
   rw [T.get_del] at h1
   split at h1
   · cases h1
   · rename_i e
     refine ⟨h1, ?_⟩
     simp only [renHas,h2,Bool.or_false]
     exact not_beq fun h=>e h.symm
 | (a,none)::r,t,l,o,h=>by
   simp only [dropOwn] at h
   exact dropOwn_ok r _ l o h
theorem tgtLt_iff:∀{ρ:Ren} {n:Nat},tgtLt ρ n=true->∀l t,renGet ρ l=some (some t)->t<n
 | [],n,h,l,t,hl=>by simp [renGet] at hl
 | (a,some b)::r,n,h,l,t,hl=>by
   simp only [tgtLt,Bool.and_eq_true] at h
   rw [renGet_cons] at hl
   split at hl
   · cases hl;have:=h.1;rw [Nat.blt_eq] at this;exact this
   · exact tgtLt_iff h.2 l t hl
 | (a,none)::r,n,h,l,t,hl=>by
   simp only [tgtLt] at h
   rw [renGet_cons] at hl
   split at hl
   · cases hl
   · exact tgtLt_iff h l t hl
theorem renIn_iff:∀{ρ:Ren} {L:List Nat},renIn ρ L=true->∀l t,renGet ρ l=some t->l∈L
 | [],n,h,l,t,hl=>by simp [renGet] at hl
 | (a,b)::r,n,h,l,t,hl=>by
   simp only [renIn,Bool.and_eq_true] at h
   rw [renGet_cons] at hl
   split at hl
   · rename_i e;subst e;exact memN_iff.1 h.1
   · exact renIn_iff h.2 l t hl
end
end Go.Eng
namespace Go.Eng
section
variable {C:Cx} {σ:SS} {s:St} {g:Gh} {A:Nat->Prop}
def calleeA (σ:SS) (g:Gh) (A:Nat->Prop) (ρ:Ren) (id:Nat):Prop:=A id\/∃x o,σ.own.get x=some o/\g.ι x=some id/\∀l,renGet ρ l≠some (some x)
open Classical in
noncomputable def backG (n:Nat) (g g':Gh) (ρ:Ren):Gh where
 ι:=fun t=>if t<n then g.ι t else if h:∃l,renGet ρ l=some (some t) then g'.ι (Classical.choose h) else none
 H:=fun id=>g.H id\/g'.F id
 F:=g'.F
theorem backG_old {n:Nat} {g':Gh} {ρ:Ren} {t:Nat} (h:t<n):(backG n g g' ρ).ι t=g.ι t:=by simp [backG,h]
theorem backG_new {n n':Nat} {g':Gh} {ρ0 ρ:Ren} {own:List (Nat×SB)} {l t:Nat} (hn:NewIds ρ0 n own ρ n') (h:n<=t) (hl:renGet ρ l=some (some t)):(backG n g g' ρ).ι t=g'.ι l:=by
 have hex:∃l,renGet ρ l=some (some t):=⟨l,hl⟩
 have hnt:¬t<n:=by omega
 simp only [backG,hnt,if_false,dif_pos hex]
 rw [hn.inj _ l t (Classical.choose_spec hex) hl h]
theorem renHas_get:∀{ρ:Ren} {n:Nat},renHas ρ n=false->∀l,renGet ρ l≠some (some n):=by
 intro ρ n h l hl
 rw [renHas_of hl] at h;cases h
theorem noBorO_mem:∀{own:List (Nat×SB)} {p:Nat×SB},noBorO own->p∈own->noBorB p.2
 | (l,b)::r,p,h,hp=>by
   rcases List.mem_cons.1 hp with rfl | hp
   · exact h.1
   · exact noBorO_mem h.2 hp
theorem back_ok (hs:Sim C σ s g A) {base:List Nat} {ρ:Ren} {fr:List Nat} {own0 own:List (Nat×SB)} {w:SV} {v:Value} {s':St} {g':Gh} {A':Nat->Prop}
 (good:Good σ ρ fr) (hin:renIn ρ base=true) (hlt:renLt ρ (SS.ofList own0).next=true) (htg:tgtLt ρ σ.next=true)
 (hids:∀p,p∈own0->∃t,renGet ρ p.1=some t/\∀l',t=some l'->∃o,σ.own.get l'=some o)
 (hs':Sim C (SS.ofList own) s' g' A') (hx:Wx false base (SS.ofList own0) s (newG g true ρ fr) (calleeA σ g A ρ) (SS.ofList own) s' g' A') (hv:RV s'.heap g' (SS.ofList own).next w v)
 (nb:match (generalizing:=false) fr with
   | []=>True
   | _=>noBor w/\noBorO own):
 ∃g2 A2,Sim C (behind σ ρ own).2 s' g2 A2/\RV s'.heap g2 (behind σ ρ own).2.next (renV (behind σ ρ own).1 w) v/\Xt σ s g A (behind σ ρ own).2 s' g2 A2:=by
 have hni:=newIds_ok own ρ σ.next (tgtLt_iff htg)
 unfold behind
 simp only
 generalize newIds own ρ σ.next=pn at hni ⊢
 obtain ⟨ρ',n1⟩:=pn
 simp only at hni ⊢
 obtain ⟨hpn,hput⟩:=putOwn_ok (ρ:=ρ') own (dropOwn ρ σ.own) .nil n1
 generalize putOwn ρ' own (dropOwn ρ σ.own) n1=pq at hpn hput ⊢
 obtain ⟨tq,n2⟩:=pq
 simp only at hpn hput ⊢
 have cls:∀t o,tq.get t=some o->(∃l b k,renGet ρ' l=some (some t)/\(SS.ofList own).own.get l=some ⟨l,b⟩/\o=⟨k,renB ρ' b⟩/\n1<=k/\k<n2/\(l,b)∈own)\/(σ.own.get t=some o/\∀l,renGet ρ l≠some (some t)):=by
  intro t o h
  rcases hput t o h with ⟨l,b,k,h1,h2,h3,h4,h5,h6⟩ | ⟨h1,h2⟩
  · obtain ⟨b',hb',e⟩:=ofList_get (l:=own) h2
    cases e
    exact .inl ⟨l,b,k,h1,h2,h3,h4,h5,hb'⟩
  · obtain ⟨h3,h4⟩:=dropOwn_ok ρ _ t o h1
    exact .inr ⟨h3,renHas_get h4⟩
 have hι:∀l t,renGet ρ' l=some (some t)->t<n1/\(backG σ.next g g' ρ').ι t=g'.ι l:=by
  intro l t h
  rcases hni.new l t h with h1 | ⟨h1,h2⟩
  · have ht:=tgtLt_iff htg l t h1
    have hb:=renIn_iff hin l _ h1
    have hl:=renLt_iff hlt l _ h1
    refine ⟨by have:=hni.le;omega, ?_⟩
    rw [backG_old ht,(hx.base l hb hl).1]
    exact (newG_ι h1).symm
  · exact ⟨h2,backG_new hni h1 h⟩
 have hF:∀id,g.F id->g'.F id:=fun id h=>hx.wk.fm id (.inl h)
 have hAA:∀id,calleeA σ g A ρ id->A' id:=hx.wk.sub
 have hA0:∀id,A id->A' id:=fun id h=>hAA id (.inl h)
 have hprot:∀id,A id->s'.heap.get id=s.heap.get id:=fun id h=>hx.wk.prot id (.inl h)
 have hHH:(∀id,g'.H id->(backG σ.next g g' ρ').H id)\/(noBor w/\noBorO own):=by
  cases fr with
  | nil=>
    refine .inl fun id h=> ?_
    rcases hx.wk.hf id h with h | h
    · rcases h with h | ⟨x,hx,_⟩
      · exact .inl h
      · cases hx
    · exact .inr h
  | cons a r=>exact .inr nb
 have grow:Grow s.heap g σ.next s'.heap (backG σ.next g g' ρ') n2:=
  ⟨by have:=hni.le;omega,fun l hl=>backG_old hl,fun id h=> .inl h,hF,fun id h=>hprot id (hs.HA id h),fun id h=>hprot id (hs.HA id (hs.FH id h))⟩
 have hf2:∀id,g'.F id->g.F id\/s.next<=id\/∃l o,σ.own.get l=some o/\g.ι l=some id/\∃l',renGet ρ l'=some (some l):=by
  intro id h
  rcases hx.hf2 id h with h | h | ⟨l,o,h1,h2⟩
  · rcases h with h | ⟨h,_⟩
    · exact .inl h
    · cases h
  · exact .inr (.inl h)
  · obtain ⟨b,hb,rfl⟩:=ofList_get h1
    obtain ⟨t,ht,ht2⟩:=hids _ hb
    rw [newG_ι ht] at h2
    cases t with
    | none=>cases h2
    | some y=>obtain ⟨oy,hy⟩:=ht2 y rfl;exact .inr (.inr ⟨y,oy,hy,h2,l,ht⟩)
 have src:∀l o id,(SS.ofList own).own.get l=some o->g'.ι l=some id->s.next<=id\/∃l o,σ.own.get l=some o/\g.ι l=some id/\∃l',renGet ρ l'=some (some l):=by
  intro l o id h1 h2
  rcases hx.src l o id h1 h2 with h | ⟨l2,o2,h1,h2⟩
  · exact .inl h
  · obtain ⟨b,hb,rfl⟩:=ofList_get h1
    obtain ⟨t,ht,ht2⟩:=hids _ hb
    rw [newG_ι ht] at h2
    cases t with
    | none=>cases h2
    | some y=>obtain ⟨oy,hy⟩:=ht2 y rfl;exact .inr ⟨y,oy,hy,h2,l2,ht⟩
 refine ⟨backG σ.next g g' ρ',fun id=>A id\/g'.F id,⟨fun t o ht=> ?_,fun t t' o o' eid h1 h2 h3 h4=> ?_,fun id h=> ?_,fun id h=> .inr h,fun id h=> ?_,hs.nd.next (fun id h=> .inl h) hprot⟩, ?_,⟨grow,fun id h=> .inl h,hx.wk.snx,fun id h=>h,fun id h=> ?_,fun t o id ht hi=> ?_,hprot,fun t o eid h1 h2 h3=> ?_,fun t o h1 h2=> ?_⟩⟩
 · rcases cls t o ht with ⟨l,b,k,h1,h2,rfl,h3,h4,h5⟩ | ⟨h1,h2⟩
   · obtain ⟨c1,c2,c3,c4⟩:=hs'.own l _ h2
     obtain ⟨i1,i2⟩:=hι l t h1
     refine ⟨by show t<n2;omega,h4,fun eid he=> ?_,fun he=> ?_⟩
     · rw [i2] at he
       obtain ⟨blk,d1,d2,d3,d4,d5⟩:=c3 eid he
       refine ⟨blk,d1,d2.ren (fun id h=>h) (hHH.imp (fun h=>h) fun h=>noBorO_mem (p:=(l,b)) h.2 h5) (fun a a' h=>⟨by have:=(hι a a' h).1;show a'<n2;omega,(hι a a' h).2⟩), ?_,d4,fun q hq=> ?_⟩
       · rintro (h | h)
         · exact d3 (hA0 _ h)
         · exact d3 (hs'.HA _ (hs'.FH _ h))
       · obtain ⟨e1,e2,e3⟩:=d5 q hq
         refine ⟨?_,e2,fun t2 o2 ht2 hq2=> ?_⟩
         · rintro (h | h)
           · exact e1 (hA0 _ h)
           · exact e1 (hs'.HA _ (hs'.FH _ h))
         · rcases cls t2 o2 ht2 with ⟨l2,b2,k2,j1,j2,rfl,_,_,_⟩ | ⟨j1,j2⟩
           · rw [(hι l2 t2 j1).2] at hq2
             exact e3 l2 _ j2 hq2
           · rw [backG_old (hs.own t2 o2 j1).1] at hq2
             exact e1 (hAA _ (.inr ⟨t2,o2,j1,hq2,j2⟩))
     · rw [i2] at he
       have:=c4 he
       cases b<;>simp only [renB,emptyB] at this ⊢ <;>exact this
   · obtain ⟨c1,c2,c3,c4⟩:=hs.own t o h1
     refine ⟨by show t<n2;have:=hni.le;omega,by show o.stamp<n2;have:=hni.le;omega,fun eid he=> ?_,fun he=> ?_⟩
     · rw [backG_old c1] at he
       obtain ⟨blk,d1,d2,d3,d4,d5⟩:=c3 eid he
       have hc:calleeA σ g A ρ eid:= .inr ⟨t,o,h1,he,h2⟩
       refine ⟨blk,(hx.wk.prot eid hc).trans d1,d2.mono grow, ?_,Nat.lt_of_lt_of_le d4 hx.wk.snx,fun q hq=> ?_⟩
       · rintro (h | h)
         · exact d3 h
         · rcases hf2 eid h with h | h | ⟨y,oy,hy1,hy2,l',hl'⟩
           · exact d3 (hs.HA _ (hs.FH _ h))
           · omega
           · have:=hs.inj y t oy o eid hy1 h1 hy2 he
             subst this
             exact h2 l' hl'
       · obtain ⟨e1,e2,e3⟩:=d5 q hq
         refine ⟨?_,Nat.lt_of_lt_of_le e2 hx.wk.snx,fun t2 o2 ht2 hq2=> ?_⟩
         · rintro (h | h)
           · exact e1 h
           · rcases hf2 q h with h | h | ⟨y,oy,hy1,hy2,l',hl'⟩
             · exact e1 (hs.HA _ (hs.FH _ h))
             · omega
             · exact e3 y oy hy1 hy2
         · rcases cls t2 o2 ht2 with ⟨l2,b2,k2,j1,j2,rfl,_,_,_⟩ | ⟨j1,j2⟩
           · rw [(hι l2 t2 j1).2] at hq2
             rcases src l2 _ q j2 hq2 with h | ⟨y,oy,hy1,hy2,l',hl'⟩
             · omega
             · exact e3 y oy hy1 hy2
           · rw [backG_old (hs.own t2 o2 j1).1] at hq2
             exact e3 t2 o2 j1 hq2
     · rw [backG_old c1] at he
       exact c4 he
 · rcases cls t o h1 with ⟨l,b,k,i1,i2,rfl,_,_,_⟩ | ⟨i1,i2⟩<;>rcases cls t' o' h2 with ⟨l',b',k',j1,j2,rfl,_,_,_⟩ | ⟨j1,j2⟩
   · rw [(hι l t i1).2] at h3
     rw [(hι l' t' j1).2] at h4
     have:=hs'.inj l l' _ _ eid i2 j2 h3 h4
     subst this
     rw [i1] at j1;cases j1;rfl
   · rw [(hι l t i1).2] at h3
     rw [backG_old (hs.own t' o' j1).1] at h4
     obtain ⟨_,_,c3,_⟩:=hs'.own l _ i2
     obtain ⟨blk,d1,d2,d3,_⟩:=c3 eid h3
     exact absurd (hAA _ (.inr ⟨t',o',j1,h4,j2⟩)) d3
   · rw [(hι l' t' j1).2] at h4
     rw [backG_old (hs.own t o i1).1] at h3
     obtain ⟨_,_,c3,_⟩:=hs'.own l' _ j2
     obtain ⟨blk,d1,d2,d3,_⟩:=c3 eid h4
     exact absurd (hAA _ (.inr ⟨t,o,i1,h3,i2⟩)) d3
   · rw [backG_old (hs.own t o i1).1] at h3
     rw [backG_old (hs.own t' o' j1).1] at h4
     exact hs.inj t t' o o' eid i1 j1 h3 h4
 · rcases h with h | h
   · exact .inl (hs.HA _ h)
   · exact .inr h
 · rcases h with h | h
   · exact Nat.lt_of_lt_of_le (hs.lt _ h) hx.wk.snx
   · exact hs'.lt _ (hs'.HA _ (hs'.FH _ h))
 · exact (hv.ren (g2:=backG σ.next g g' ρ') (fun id h=>h) (hHH.imp (fun h=>h) fun h=>h.1)).1 fun a a' h=>⟨by show a'<n2;have:=(hι a a' h).1;omega,(hι a a' h).2⟩
 · rcases hf2 id h with h | h | ⟨l,o,h1,h2,_⟩
   · exact .inl h
   · exact .inr (.inl h)
   · exact .inr (.inr ⟨l,o,h1,h2⟩)
 · rcases cls t o ht with ⟨l,b,k,i1,i2,rfl,_,_,_⟩ | ⟨i1,i2⟩
   · rw [(hι l t i1).2] at hi
     rcases src l _ id i2 hi with h | ⟨y,oy,hy1,hy2,_⟩
     · exact .inl h
     · exact .inr ⟨y,oy,hy1,hy2⟩
   · rw [backG_old (hs.own t o i1).1] at hi
     exact .inr ⟨t,o,i1,hi⟩
 · rcases cls t o h2 with ⟨l,b,k,i1,i2,rfl,i3,_,_⟩ | ⟨i1,i2⟩
   · have:=(hs.own t _ h1).2.1
     have:=hni.le
     simp only at*
     omega
   · exact hx.wk.prot _ (.inr ⟨t,o,i1,h3,i2⟩)
 · rcases cls t o h1 with ⟨l,b,k,i1,i2,rfl,i3,_,_⟩ | ⟨i1,i2⟩
   · have:=hni.le
     simp only at*
     omega
   · exact i1
theorem outW_ok (hs:Sim C σ s g A) {base:List Nat} {ρ:Ren} {fr:List Nat} {own0:List (Nat×SB)}
 (good:Good σ ρ fr) (hin:renIn ρ base=true) (hlt:renLt ρ (SS.ofList own0).next=true) (htg:tgtLt ρ σ.next=true)
 (hids:∀p,p∈own0->∃t,renGet ρ p.1=some t/\∀l',t=some l'->∃o,σ.own.get l'=some o) {kr:KR} {kp:KP} {out:FOut}:∀{o:SOut},
 outW σ ρ fr (fun v σ=>kr v .run σ) (fun v σ=>kp [(v,false)] .run σ) o->SR C base (SS.ofList own0) s (newG g true ρ fr) (calleeA σ g A ρ) out o->FR C kr kp σ s g A out
 | .ask b t f,h,hr=>by
   simp only [outW] at h
   rw [ask_iff] at h
   cases b with
   | true=>exact outW_ok hs good hin hlt htg hids (h.1 rfl) (hr.1 rfl)
   | false=>exact outW_ok hs good hin hlt htg hids (h.2 rfl) (hr.2 rfl)
 | .ex X P f,h,hr=>by
   obtain ⟨x,hx1,hr⟩:=hr
   exact outW_ok hs good hin hlt htg hids (h x hx1) hr
 | .ret w own,h,hr=>by
   obtain ⟨v,s',g',A',rfl,h1,h2,h3⟩:=hr
   obtain ⟨nb,hk⟩:=h
   obtain ⟨g2,A2,k1,k2,k3⟩:=back_ok hs good hin hlt htg hids h1 h3 h2 nb
   exact ⟨_,.run,_,g2,A2,hk,k2,trivial,k1,k3⟩
 | .pan w own,h,hr=>by
   obtain ⟨v,s',g',A',rfl,h1,h2,h3⟩:=hr
   obtain ⟨nb,hk⟩:=h
   obtain ⟨g2,A2,k1,k2,k3⟩:=back_ok hs good hin hlt htg hids h1 h3 h2 nb
   exact ⟨_,.run,_,g2,A2,hk,⟨k2,rfl,rfl,trivial⟩,trivial,k1,k3⟩
theorem specW_ok {f:FuncId} {S:FSpec} (hS:SpecOk C f S) (hs:Sim C σ s g A) {l:List SV} {args:List Value} (hl:RL s.heap g σ.next l args) {kr:KR} {kp:KP}
 (h:specW S l σ (fun v σ=>kr v .run σ) (fun v σ=>kp [(v,false)] .run σ)):∃out,CallTo C false f args .run s out/\FR C kr kp σ s g A out:=by
 obtain ⟨x,hx,h⟩:=h
 have good0:Good σ [] []:=⟨fun l l' t h=>by simp [renGet] at h,fun l t h=>by simp [renGet] at h,fun t h=>by cases h⟩
 obtain ⟨ρ1,fr1,l1,g1,k1,p1⟩:=entL_ok hs entF (S.args x) l args [] [] _ h hl good0
 obtain ⟨ρ2,fr2,e2⟩:=entO_ok hs k1 g1
 have hk:=e2.k
 cases hb:(renIn ρ2 S.base&&(renLt ρ2 (SS.ofList (S.own x)).next&&tgtLt ρ2 σ.next)) with
 | false=>simp only [hb] at hk;exact hk.elim
 | true=>
 simp only [hb] at hk
 simp only [Bool.and_eq_true] at hb
 obtain ⟨b1,b2,b3⟩:=hb
 have hF:=newG_fin (g:=g) (bor:=true) (fr:=fr2) b2
 have st:Sim C (SS.ofList (S.own x)) s (newG g true ρ2 fr2) (calleeA σ g A ρ2):=by
  refine newState hs e2.good e2.ids (e2.fin _ _ hF) (fun id h=>h) (fun id h=> .inl h) (fun x hx id h=> ?_)
  obtain ⟨o,ho⟩:=e2.good.own x hx
  exact .inr ⟨x,o,ho,h,fun l hl=>e2.good.off l x hl hx⟩
 obtain ⟨out,h1,h2⟩:=hS x hx s _ _ args st (p1 _ _ (hF.le e2.le))
 exact ⟨out,h1,outW_ok hs e2.good b1 b2 b3 e2.ids hk h2⟩
def SpOk (C:Cx) (Sp:List (Nat×FSpec)):Prop:=∀f S,spGet Sp f=some S->SpecOk C f S
theorem pure_spec {f:FuncId} {S:FSpec} (hS:SpecOk C f S) {P:PSpec} (hP:pureS S=some P) {x:P.X} {l:List SV} (h:P.cond x l σ) (hs:Sim C σ s g A) {args:List Value} (hl:RL s.heap g σ.next l args):
 ∃v s' g' A',CallTo C false f args .run s (.returned v .run s')/\RV s'.heap g' σ.next (P.val x) v/\Sim C σ s' g' A'/\Xt σ s g A σ s' g' A':=by
 unfold pureS at hP
 split at hP
 case h_2=>cases hP
 rename_i w hw
 simp only [Option.some.injEq] at hP
 subst hP
 obtain ⟨hx,nb,h⟩:=h
 obtain ⟨hb,ho⟩:=w.2
 obtain ⟨ho1,ho2⟩:=ho x
 have good0:Good σ [] []:=⟨fun l l' t h=>by simp [renGet] at h,fun l t h=>by simp [renGet] at h,fun t h=>by cases h⟩
 obtain ⟨ρ1,fr1,l1,g1,k1,p1⟩:=entL_ok hs entF (S.args x) l args [] [] _ h hl good0
 have hρ:ρ1=[]:=by
  cases ρ1 with
  | nil=>rfl
  | cons a r=>exact k1.elim
 subst hρ
 have b2:renLt [] (SS.ofList ([]:List (Nat×SB))).next=true:=rfl
 have b3:tgtLt [] σ.next=true:=rfl
 have hids:∀p,p∈([]:List (Nat×SB))->∃t,renGet [] p.1=some t/\∀l',t=some l'->∃o,σ.own.get l'=some o:=fun p hp=>by cases hp
 have hF:=newG_fin (g:=g) (bor:=true) (fr:=fr1) b2
 have st:Sim C (SS.ofList []) s (newG g true [] fr1) (calleeA σ g A []):=by
  refine newState hs g1 hids (fun p hp=>by cases hp) (fun id h=>h) (fun id h=> .inl h) (fun x hx id h=> ?_)
  obtain ⟨o,ho⟩:=g1.own x hx
  exact .inr ⟨x,o,ho,h,fun l hl=>g1.off l x hl hx⟩
 obtain ⟨out,h1,h2⟩:=hS x hx s _ _ args (by rw [ho1];exact st) (by rw [ho1];exact p1 _ _ (hF.le .refl))
 rw [ho2,ho1] at h2
 obtain ⟨v,s',g',A',rfl,m1,m2,m3⟩:=h2
 obtain ⟨g2,A2,k1,k2,k3⟩:=back_ok (base:=S.base) hs g1 (by rw [hb];rfl) b2 b3 hids m1 m3 m2 (by
  split
  · trivial
  · exact ⟨nb,trivial⟩)
 exact ⟨v,s',g2,A2,h1,k2,k1,k3⟩
theorem rec_ok {Sp:List (Nat×FSpec)} (hSp:SpOk C Sp) (hdraw:∀n,RecWOk C (recW C Sp n)->∀cf,DrawWOk C (recW C Sp n) cf):∀n,RecWOk C (recW C Sp n)
 | 0=>⟨fun d f l u σ kr kp h=>h.elim,fun f P h=>by cases h⟩
 | n+1=>⟨fun d f l u σ kr kp h s g A args eu hs hl hu=>by
   have ih:=rec_ok hSp hdraw n
   have body:bodyW C (recW C Sp n) [] (fun _=>none) n d f l u σ kr kp->∃out,CallTo C d f args eu s out/\FR C kr kp σ s g A out:=by
    intro h
    obtain ⟨out,h1,h2⟩:=body_ok ih (hdraw n ih) (fl:=true) (fun _ _=>rfl) hs hl hu h
    exact ⟨out,h1,h2.fr⟩
   simp only [recW] at h
   cases d with
   | true=>exact body h
   | false=>
     simp only [cond_false] at h
     split at h
     · rename_i S hS
       split at h
       · cases eu<;>simp only [RM] at hu
         exact specW_ok (hSp f S hS) hs hl h
       · exact h.elim
     · exact body h,fun f P hP x l σ h s g A args hs hl=>by
   simp only [recW] at hP
   split at hP
   · rename_i S hS
     exact pure_spec (hSp f S hS) hP h hs hl
   · cases hP⟩
end
end Go.Eng
namespace Go.Eng
section
variable {C:Cx} {σ:SS} {s:St} {g:Gh} {A:Nat->Prop}
theorem sureL_get:∀{l:List SV} {j:Nat} {a:SV},sureL l=true->l[j]? =some a->sureV a=true
 | b::r,0,a,h,e=>by simp [sureL] at h;simp at e;subst e;exact h.1
 | b::r,j+1,a,h,e=>by simp [sureL] at h;exact sureL_get h.2 (by simpa using e)
theorem sameL_refl:∀{vs:List Value},(∀(j:Nat) (v:Value),vs[j]? =some v->sameV v v=true)->sameL vs vs=true
 | [],_=>by simp only [sameL]
 | v::r,h=>by
   simp only [sameL,Bool.and_eq_true]
   exact ⟨h 0 v rfl,sameL_refl fun j w hw=>h (j+1) w (by simpa using hw)⟩
theorem eqBytes_refl:∀(l:List UInt8),eqBytes l l=true
 | []=>rfl
 | a::r=>by simp only [eqBytes,Nat.beq_refl,Bool.true_and,eqBytes_refl r]
theorem sure_same {h:T Blk} {N:Nat} {a:SV} {v:Value} (hv:RV h g N a v):sureV a=true->sameV v v=true:=by
 have get:∀{l:List SV} {vs:List Value} (h1:l.length=vs.length),(∀(j:Nat) (a:SV) (v:Value),l[j]? =some a->vs[j]? =some v->sureV a=true->sameV v v=true)->sureL l=true->sameL vs vs=true:=by
  intro l vs h1 ih hs
  refine sameL_refl fun j v hv=> ?_
  have hj:j<l.length:=by rw [h1];exact (List.getElem?_eq_some_iff.1 hv).1
  exact ih j _ v (List.getElem?_eq_getElem hj) hv (sureL_get hs (List.getElem?_eq_getElem hj))
 have emp:∀{g:Gh} {r:Nat} {v:Value},EmpR h g r v->sameV v v=true:=by
  rintro g r v (⟨id,off,cap,cs,e,st,par,rfl,h1,h2⟩ | ⟨id,off,k,rfl⟩)<;>simp [sameV]
 induction hv with
 | bool b=>intro _;cases b<;>rfl
 | int k n=>intro _;simp [sameV]
 | str l=>intro _;simp only [sameV];exact eqBytes_refl l
 | bytes=>intro _;simp [sameV]
 | bytesE r nn v h=>exact fun _=>emp h
 | bytesN=>intro _;simp [sameV]
 | imm=>intro _;simp [sameV]
 | immE r nn sz f v h=>exact fun _=>emp h
 | immN=>intro _;simp [sameV]
 | nilS=>intro _;simp [sameV]
 | empS v h=>exact fun _=>emp h
 | sl=>intro _;simp [sameV]
 | slN=>intro _;simp [sameV]
 | ptr=>intro _;simp [sameV]
 | ip=>intro _;simp [sameV]
 | nilP=>intro _;simp [sameV]
 | agg l vs h1 h2 ih=>
   intro hs
   simp only [sureV] at hs
   simp only [sameV,sameA]
   exact get h1 ih hs
 | tup l vs h1 h2 ih=>
   intro hs
   simp only [sureV] at hs
   simp only [sameV,sameA]
   exact get h1 ih hs
 | fn f a c va vc h1 h2 h3 h4 ih1 ih2=>
   intro hs
   simp only [sureV,Bool.and_eq_true] at hs
   simp only [sameV,sameA,Nat.beq_refl,get h1 ih1 hs.1,get h3 ih2 hs.2,Bool.and_self]
 | nilF=>intro _;rfl
 | ifc t a v h ih=>
   intro hs
   simp only [sureV] at hs
   simp only [sameV,Nat.beq_refl,ih hs,Bool.and_self]
 | nilI=>intro _;rfl
 | nilM=>intro _;rfl
 | may b a v h h2 ih=>
   intro hs
   simp only [sureV] at hs
   cases b with
   | true=>exact ih rfl hs
   | false=>rw [h2 rfl];rfl
 | undef v=>intro hs;simp [sureV] at hs
def fp1:SV->List Nat
 | .sl id _ _ _ _ _=>[id]
 | .ptr id _ _ _=>[id]
 | _=>[]
structure Stay (h:T Blk) (g:Gh) (fp:List Nat) (h':T Blk):Prop where
 frz:∀id,g.H id->h'.get id=h.get id
 own:∀l,l∈fp->∀eid,g.ι l=some eid->h'.get eid=h.get eid
theorem load_stay {h h':T Blk} {n n' N:Nat} {fp:List Nat} {x:SV} {v w:Value} {t:TypeId} (hs:Stay h g fp h') (hx:RV h g N x v) (hfp:∀l,l∈fp1 x->l∈fp) {k:Nat} (hr:(readS σ x k).isSome=true)
 (hl:loadA C t v ⟨h,n⟩=some w):loadA C t v ⟨h',n'⟩=some w:=by
 cases hx<;>simp only [readS,Option.isSome_none,Bool.false_eq_true] at hr
 · rename_i id sz i j eid h1 h2
   unfold loadA at hl ⊢
   simp only at hl ⊢
   rw [hs.own id (hfp id (by simp [fp1])) eid (by assumption)]
   exact hl
 · rename_i l id off cs e st par vs h1 h2 h3 h4 h5
   unfold loadA at hl ⊢
   simp only at hl ⊢
   rw [hs.frz id (by assumption)]
   exact hl
theorem In.H (hFH:∀id,g.F id->g.H id) {r id:Nat} (h:g.In r id):g.H id:=by
 cases r with
 | zero=>exact h
 | succ r=>exact hFH id h
theorem rdSlice_stay {h h':T Blk} {n n' N:Nat} {fp:List Nat} {x:SV} {v:Value} (hs:Stay h g fp h') (hFH:∀id,g.F id->g.H id) (hx:RV h g N x v) (hfp:∀l,l∈fp1 x->l∈fp) (hr:(rdBytesS σ x).isSome=true):
 rdSlice ⟨h',n'⟩ 1 v=rdSlice ⟨h,n⟩ 1 v:=by
 have emp:∀{r:Nat} {v:Value},EmpR h g r v->rdSlice ⟨h',n'⟩ 1 v=rdSlice ⟨h,n⟩ 1 v:=by
  rintro r v (⟨id,off,cap,cs,e,st,par,rfl,h1,h2⟩ | ⟨id,off,k,rfl⟩)
  · simp only [rdSlice,hs.frz id (In.H hFH h1)]
  · rfl
 cases hx<;>simp only [rdBytesS,Option.isSome_none,Bool.false_eq_true] at hr
 case str=>rfl
 case bytes r nn l id off cap cs e st par h2 h3 h4 h1=>simp only [rdSlice,hs.frz id (In.H hFH h1)]
 case bytesE r nn h=>exact emp h
 case bytesN=>rfl
 case nilS=>rfl
 case empS h=>exact emp h
 case sl id sz off len c op eid h1 h2 h3=>simp only [rdSlice,hs.own id (hfp id (by simp [fp1])) eid (by assumption)]
 case slN=>rfl
theorem conv_stay {h h':T Blk} {n n' N:Nat} {fp:List Nat} {x a:SV} {v w:Value} {src dst:TypeId} {ps:List Prop} (hs:Stay h g fp h') (hFH:∀id,g.F id->g.H id) (hx:RV h g N x v) (hfp:∀l,l∈fp1 x->l∈fp) (hr:convS C σ src dst x=some (ps,a))
 (hl:convA C src dst v ⟨h,n⟩= .ok (.value w) ⟨h,n⟩):convA C src dst v ⟨h',n'⟩= .ok (.value w) ⟨h',n'⟩:=by
 unfold convS at hr
 split at hr
 · rename_i sd dd hsd hdd
   unfold convA at hl ⊢
   rw [hsd,hdd] at hl ⊢
   simp only at hl ⊢
   split at hr
   · rename_i k m
     cases hx
     simp only at hl ⊢
     split at hr
     · simp only [R.ok.injEq,ANext.value.injEq] at hl ⊢
       exact ⟨hl.1,trivial⟩
     · cases hr
   · rename_i l
     cases hx
     simp only at hl ⊢
     split at hr
     · simp only [R.ok.injEq,ANext.value.injEq] at hl ⊢
       exact ⟨hl.1,trivial⟩
     · cases hr
   · rename_i hn1 hn2
     split at hr
     · rename_i e
       cases hb:isU8 C e with
       | false=>rw [hb] at hr;cases hr
       | true=>
       rw [hb] at hr
       simp only [cond_true] at hr
       split at hr
       · rename_i ps' l' hrd
         have hst:=rdSlice_stay (n:=n) (n':=n') hs hFH hx hfp (by rw [hrd];rfl)
         obtain ⟨a1,a2,a3,rfl⟩:=rdBytes_shape hx hrd (fun l e=>hn2 l e)
         simp only at hl ⊢
         split at hl
         · have:toStrA ⟨h',n'⟩ (.slice a1 a2 a3)=toStrA ⟨h,n⟩ (.slice a1 a2 a3):=by
            simp only [toStrA,hst]
           rename_i hu
           rw [this]
           revert hl
           cases toStrA ⟨h,n⟩ (.slice a1 a2 a3) with
           | none=>intro hl;cases hl
           | some x=>
             intro hl
             simp only [ovalue,R.ok.injEq,ANext.value.injEq] at hl ⊢
             exact ⟨hl.1,trivial⟩
         · cases hl
       · cases hr
     · cases hr
 · cases hr
theorem ov_stay {x:Option Value} {s s':St} {v:Value} (h:ovalue x s= .ok (.value v) s):ovalue x s'= .ok (.value v) s':=by
 cases x with
 | none=>cases h
 | some x=>
   simp only [ovalue,R.ok.injEq,ANext.value.injEq] at h ⊢
   exact ⟨h.1,trivial⟩
theorem fp_arg {e:SE} {x:Operand} {a:SV} {b:Bool} {ps:List Prop} (hx:argS C e b x=some (ps,a)):∃v,e.eval C x=some v/\∀l,l∈fp1 a->l∈fpV v:=by
 unfold argS at hx
 split at hx
 · rename_i g' v' hv
   simp only [Option.some.injEq,Prod.mk.injEq] at hx
   obtain ⟨_,rfl⟩:=hx
   refine ⟨_,hv,fun l=> ?_⟩
   cases v'<;>simp [fpV,fp1]
 · rename_i v' _ hv
   simp only [Option.some.injEq,Prod.mk.injEq] at hx
   obtain ⟨_,rfl⟩:=hx
   refine ⟨_,hv,fun l=> ?_⟩
   cases v'<;>simp [fpV,fp1]
 · cases hx
theorem val_stay (hs:Sim C σ s g A) {e:SE} {e':E} (he:RE s.heap g σ.next e e') {o:Oper} {op:Op} {b:Bool} (hb:b=true) {ps:List Prop} {a:SV} (hv:valS C e b σ op=some (ps,a)) (hps:PS ps)
 {h':T Blk} {n':Nat} (hst:Stay s.heap g (fpOp C e op) h') {v:Value} (hl:opSel op C e' o s= .ok (.value v) s):opSel op C e' o ⟨h',n'⟩= .ok (.value v) ⟨h',n'⟩:=by
 unfold valS at hv
 split at hv
 case h_5=>
  rename_i t x
  split at hv
  · rename_i p x' hx
    obtain ⟨q,hq,hp1,hp2⟩:=withP_some hv hps
    obtain ⟨w,h1,h2⟩:=arg_rel he hx hb hp1
    obtain ⟨y,hy1,hy2⟩:=fp_arg hx
    simp only [opSel,h1] at hl ⊢
    have hr:∃k,(readS σ x' k).isSome=true:=by
     unfold loadS at hq
     split at hq
     · cases hg:isAggD _ with
       | true=>
         rw [hg] at hq
         simp only [cond_true] at hq
         split at hq
         · rename_i n _
           split at hq
           · rename_i hrd;exact ⟨n,by rw [hrd];rfl⟩
           · cases hq
         · cases hq
       | false=>
         rw [hg] at hq
         simp only [cond_false] at hq
         split at hq
         · rename_i hrd;exact ⟨1,by rw [hrd];rfl⟩
         · cases hq
     · cases hq
    obtain ⟨k,hr⟩:=hr
    have hfp:∀l,l∈fp1 x'->l∈fpOp C e (.load t x):=fun l hl=>by simp only [fpOp,hy1];exact hy2 l hl
    revert hl
    cases hld:loadA C t w s with
    | none=>intro hl;cases hl
    | some z=>
      intro hl
      rw [load_stay (n:=s.next) (n':=n') hst h2 hfp hr hld]
      exact ov_stay hl
  · cases hv
 case h_9=>
  rename_i src dst x
  split at hv
  · rename_i p x' hx
    obtain ⟨q,hq,hp1,hp2⟩:=withP_some hv hps
    obtain ⟨w,h1,h2⟩:=arg_rel he hx hb hp1
    obtain ⟨y,hy1,hy2⟩:=fp_arg hx
    simp only [opSel,h1] at hl ⊢
    have hfp:∀l,l∈fp1 x'->l∈fpOp C e (.convert src dst x):=fun l hl=>by simp only [fpOp,hy1];exact hy2 l hl
    exact conv_stay (n:=s.next) hst hs.FH h2 hfp hq hl
  · cases hv
 case h_19=>
  rename_i args ts
  split at hv
  · rename_i x t hx ht
    split at hv
    · rename_i p x' d h1 h2
      split at hv
      · rename_i n h3
        cases hk:kindS d x' with
        | false=>rw [hk] at hv;cases hv
        | true=>
          rw [hk] at hv
          simp only [cond_true,Option.some.injEq,Prod.mk.injEq] at hv
          obtain ⟨rfl,rfl⟩:=hv
          obtain ⟨w,h7,h8⟩:=arg_rel he h1 hb hps
          have e1:=len_rel (s:=s) h8 h3 h2 hk
          have e2:=len_rel (s:=⟨h',n'⟩) h8 h3 h2 hk
          simp only [opSel,resolveA,hx,evals,h7,invokeA,builtinA,builtinSel,ht,e1,e2] at hl ⊢
          exact ov_stay hl
      · cases hv
    · cases hv
  · cases hv
 case h_20=>
  rename_i args ts
  split at hv
  · rename_i x y hx
    split at hv
    · rename_i p k a q k' b h1 h2
      by_cases hk:k=k'
      case neg=>simp [hk] at hv
      subst hk
      simp only [decide_true,cond_true,Option.some.injEq,Prod.mk.injEq] at hv
      obtain ⟨rfl,rfl⟩:=hv
      obtain ⟨v,h7,h8⟩:=arg_rel he h1 hb hps.append.1
      obtain ⟨w,h9,h10⟩:=arg_rel he h2 hb hps.append.2
      cases h8;cases h10
      simp only [opSel,resolveA,hx,evals,h7,h9,invokeA,builtinA,builtinSel,foldA,min2A,ovalue] at hl ⊢
      simp only [R.ok.injEq,ANext.value.injEq] at hl ⊢
      exact ⟨hl.1,trivial⟩
    · cases hv
  · cases hv
 all_goals first | exact absurd hv (by intro h;cases h) | skip
 all_goals
  clear hv hst
  revert hl
  simp only [opSel]
  repeat' split
  all_goals
   intro hl
   first
    | exact ov_stay hl
    | (simp only [R.ok.injEq,ANext.value.injEq] at hl ⊢;exact ⟨hl.1,trivial⟩)
    | (cases hl;done)
    | (cases hl;rfl)
    | skip
end
end Go.Eng
