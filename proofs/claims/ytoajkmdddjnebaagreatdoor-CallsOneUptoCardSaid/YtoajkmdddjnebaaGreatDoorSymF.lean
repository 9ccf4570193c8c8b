import Derived.Test.YtoajkmdddjnebaaGreatDoorSymE
import Derived.Test.YtoajkmdddjnebaaGreatDoorEngEF
import Derived.KernelRfl
set_option linter.unusedSimpArgs false
set_option linter.unusedVariables false
namespace Go.Eng
section
variable {C:Cx} {σ:SS} {s:St} {g:Gh} {A:Nat->Prop}
def lookValS (base:T SV) (dm cls:T Nat) (i m:Nat) (V:T SV) (d:Tmp):Option SV:=
 match dm.get d with
 | none=>base.get d
 | some j=>bif bitB m j then V.get j
   else match cls.get j with
    | some mj=>bif bitB mj i then base.get d else none
    | none=>none
def lookValA (base:T Value) (dm cls:T Nat) (i m:Nat) (V:T Value) (M:T Info) (d:Tmp):Option Value:=
 match dm.get d with
 | none=>base.get d
 | some j=>bif bitB m j then knownA V M j
   else match cls.get j with
    | some mj=>bif bitB mj i then base.get d else none
    | none=>none
theorem lookS_eq (base:T SV) (dm cls:T Nat) (i m:Nat) (V:T SV) (d:Tmp) (t:T SV):lookS base dm cls i m V d t=match lookValS base dm cls i m V d with
 | some v=>t.set d v
 | none=>t:=by
 unfold lookS lookValS
 cases dm.get d with
 | none=>rfl
 | some j=>
   simp only
   cases bitB m j with
   | true=>rfl
   | false=>
     simp only [cond_false]
     cases cls.get j with
     | none=>rfl
     | some mj=>simp only;cases bitB mj i<;>rfl
theorem lookA_eq (base:T Value) (dm cls:T Nat) (i m:Nat) (V:T Value) (M:T Info) (d:Tmp) (t:T Value):lookA base dm cls i m V M d t=match lookValA base dm cls i m V M d with
 | some v=>t.set d v
 | none=>t:=by
 unfold lookA lookValA
 cases dm.get d with
 | none=>rfl
 | some j=>
   simp only
   cases bitB m j with
   | true=>rfl
   | false=>
     simp only [cond_false]
     cases cls.get j with
     | none=>rfl
     | some mj=>simp only;cases bitB mj i<;>rfl
theorem lookVal_rel {h:T Blk} {N:Nat} {base:SE} {baseE:E} {dm cls:T Nat} {i m:Nat} {V:T SV} {V':T Value} {M:T Info} (hb:RE h g N base baseE) (hV:∀j,bitB m j=true->∀a,V.get j=some a->∃v,knownA V' M j=some v/\RV h g N a v) {d:Tmp} {a:SV}
 (hl:lookValS base.tmps dm cls i m V d=some a):∃v,lookValA baseE.tmps dm cls i m V' M d=some v/\RV h g N a v:=by
 unfold lookValS at hl
 unfold lookValA
 cases hd:dm.get d with
 | none=>rw [hd] at hl;exact hb.tmps d a hl
 | some j=>
   rw [hd] at hl
   simp only at hl ⊢
   cases hm:bitB m j with
   | true=>rw [hm] at hl;exact hV j hm a hl
   | false=>
     rw [hm] at hl
     simp only [cond_false] at hl ⊢
     cases hc:cls.get j with
     | none=>rw [hc] at hl;cases hl
     | some mj=>
       rw [hc] at hl
       simp only at hl ⊢
       cases hi:bitB mj i with
       | true=>rw [hi] at hl;exact hb.tmps d a hl
       | false=>rw [hi] at hl;cases hl
def LK (base:SE) (baseE:E) (dm cls:T Nat) (i m:Nat) (V:T SV) (V':T Value) (M:T Info) (t:T SV) (t':T Value):Prop:=
 ∀d a,t.get d=some a->lookValS base.tmps dm cls i m V d=some a/\t'.get d=lookValA baseE.tmps dm cls i m V' M d
theorem LK.look {h:T Blk} {N:Nat} {base:SE} {baseE:E} {dm cls:T Nat} {i m:Nat} {V:T SV} {V':T Value} {M:T Info} (hb:RE h g N base baseE) (hV:∀j,bitB m j=true->∀a,V.get j=some a->∃v,knownA V' M j=some v/\RV h g N a v)
 {t:T SV} {t':T Value} (hL:LK base baseE dm cls i m V V' M t t') (d:Tmp):LK base baseE dm cls i m V V' M (lookS base.tmps dm cls i m V d t) (lookA baseE.tmps dm cls i m V' M d t'):=by
 rw [lookS_eq,lookA_eq]
 cases hs:lookValS base.tmps dm cls i m V d with
 | some a=>
   obtain ⟨v,h1,h2⟩:=lookVal_rel hb hV hs
   rw [h1]
   intro x b hx
   simp only [T.get_set] at hx ⊢
   by_cases e:x=d
   · rw [if_pos e] at hx ⊢
     cases hx
     rw [e]
     exact ⟨hs,h1.symm⟩
   · rw [if_neg e] at hx ⊢
     exact hL x b hx
 | none=>
   simp only
   intro x b hx
   obtain ⟨h1,h2⟩:=hL x b hx
   refine ⟨h1, ?_⟩
   have e:x≠d:=by rintro rfl;rw [hs] at h1;cases h1
   split
   · rw [T.get_set,if_neg e];exact h2
   · exact h2
theorem LK.looks {h:T Blk} {N:Nat} {base:SE} {baseE:E} {dm cls:T Nat} {i m:Nat} {V:T SV} {V':T Value} {M:T Info} (hb:RE h g N base baseE) (hV:∀j,bitB m j=true->∀a,V.get j=some a->∃v,knownA V' M j=some v/\RV h g N a v):
 ∀{l:List Operand} {t:T SV} {t':T Value},LK base baseE dm cls i m V V' M t t'->LK base baseE dm cls i m V V' M (looksS base.tmps dm cls i m V l t) (looksA baseE.tmps dm cls i m V' M l t')
 | [],t,t',h=>h
 | .tmp d::r,t,t',h=>by
   simp only [looksS,looksA]
   exact LK.looks hb hV (h.look hb hV d)
 | .const v::r,t,t',h=>by
   simp only [looksS,looksA]
   exact LK.looks hb hV h
 | .global v::r,t,t',h=>by
   simp only [looksS,looksA]
   exact LK.looks hb hV h
 | .func v::r,t,t',h=>by
   simp only [looksS,looksA]
   exact LK.looks hb hV h
theorem env_rel {h:T Blk} {N:Nat} {base:SE} {baseE:E} {ops:List Oper} {dm cls:T Nat} {i m:Nat} {V:T SV} {V':T Value} {M:T Info} (hb:RE h g N base baseE) (hV:∀j,bitB m j=true->∀a,V.get j=some a->∃v,knownA V' M j=some v/\RV h g N a v) (o:Oper):
 RE h g N (envS base ops dm cls i m V o) (envA baseE ops dm cls i m V' M o):=by
 have h0:LK base baseE dm cls i m V V' M .nil .nil:=fun d a hd=>by rw [T.get_nil] at hd;cases hd
 have h1:=LK.looks (l:=o.op.operands.toList) hb hV h0
 have fin:∀{t:T SV} {t':T Value},LK base baseE dm cls i m V V' M t t'->RE h g N {base with tmps:=t} {baseE with tmps:=t'}:=by
  intro t t' hL
  refine ⟨hb.n,fun d a hd=> ?_,hb.defers⟩
  obtain ⟨k1,k2⟩:=hL d a hd
  obtain ⟨v,k3,k4⟩:=lookVal_rel hb hV k1
  exact ⟨v,k2.trans k3,k4⟩
 unfold envS envA
 simp only
 apply fin
 cases o.guard with
 | none=>exact h1
 | some p=>
   obtain ⟨j,w⟩:=p
   simp only
   cases nth ops j with
   | none=>exact h1
   | some oj=>
     simp only
     cases oj.dst with
     | none=>exact h1
     | some d=>exact h1.look hb hV d
theorem lookVal_congr {base:T Value} {dm cls:T Nat} {i m:Nat} {V V2:T Value} {M M2:T Info} (h:∀j,bitB m j=true->knownA V2 M2 j=knownA V M j) (d:Tmp):lookValA base dm cls i m V2 M2 d=lookValA base dm cls i m V M d:=by
 unfold lookValA
 cases dm.get d with
 | none=>rfl
 | some j=>
   simp only
   cases hm:bitB m j with
   | true=>simp only [cond_true,h j hm]
   | false=>rfl
theorem looks_congr {base:T Value} {dm cls:T Nat} {i m:Nat} {V V2:T Value} {M M2:T Info} (h:∀j,bitB m j=true->knownA V2 M2 j=knownA V M j):∀(l:List Operand) (t:T Value),looksA base dm cls i m V2 M2 l t=looksA base dm cls i m V M l t
 | [],t=>rfl
 | .tmp d::r,t=>by
   simp only [looksA]
   rw [looks_congr h r,lookA_eq,lookA_eq,lookVal_congr h]
 | .const v::r,t=>by
   simp only [looksA]
   exact looks_congr h r t
 | .global v::r,t=>by
   simp only [looksA]
   exact looks_congr h r t
 | .func v::r,t=>by
   simp only [looksA]
   exact looks_congr h r t
theorem env_congr {base:E} {ops:List Oper} {dm cls:T Nat} {i m:Nat} {V V2:T Value} {M M2:T Info} (h:∀j,bitB m j=true->knownA V2 M2 j=knownA V M j) (o:Oper):envA base ops dm cls i m V2 M2 o=envA base ops dm cls i m V M o:=by
 unfold envA
 simp only [looks_congr h]
 congr 1
 split
 · rfl
 · split
   · rfl
   · split
     · rfl
     · rw [lookA_eq,lookA_eq,lookVal_congr h]
theorem alloc_step {o:Oper} {t:TypeId} {z:Value} (ho:allocT o=some t) (hz:C.zero t=some z) (rec:Rec) (ops:List Oper) (e:E) (s:St):
 stepV C rec ops o e s=some (.pointer (some ⟨s.next,0,none⟩),s.new (.cells (cellsOf' z) t 0 none)):=by
 unfold allocT at ho
 split at ho
 · rename_i hg
   split at ho
   · rename_i t' hop
     cases ho
     have hA:opA C e o s=opSel o.op C e o s:=rfl
     simp only [stepV,wantedA,hg,hA,hop,opSel,hz]
   · cases ho
 · cases ho
theorem alloc_fail {o:Oper} {t:TypeId} (ho:allocT o=some t) (hz:C.zero t=none) (rec:Rec) (ops:List Oper) (e:E) (s:St):stepV C rec ops o e s=none:=by
 unfold allocT at ho
 split at ho
 · rename_i hg
   split at ho
   · rename_i t' hop
     cases ho
     have hA:opA C e o s=opSel o.op C e o s:=rfl
     simp only [stepV,wantedA,hg,hA,hop,opSel,hz]
   · cases ho
 · cases ho
theorem convT_inv {o:Oper} {el:TypeId} (h:convT C o=some el):o.guard=none/\∃src dst x sd,o.op= .convert src dst x/\C.und src=some sd/\C.und dst=some (.slice el)/\isU8 C el=true:=by
 unfold convT at h
 split at h
 case h_2=>cases h
 rename_i hg
 split at h
 case h_2=>cases h
 rename_i src dst x hop
 split at h
 case h_2=>cases h
 rename_i sd e h1 h2
 cases hu:isU8 C e with
 | false=>rw [hu] at h;cases h
 | true=>rw [hu] at h;cases h;exact ⟨hg,src,dst,x,sd,hop,h1,h2,hu⟩
theorem conv_step {o:Oper} {el:TypeId} {src dst:TypeId} {x:Operand} {l:List UInt8} {e:E} (ho:convT C o=some el) (hx:o.op= .convert src dst x) (hv:e.eval C x=some (.string ⟨⟨l⟩⟩)) (hl:l.length<1099511627776) (rec:Rec) (ops:List Oper) (s:St):
 stepV C rec ops o e s=some (.slice (some ⟨s.next,0,none⟩) l.length (2*l.length+1),s.new (.cells (l.map byteV) el 0 none)):=by
 obtain ⟨hg,src',dst',x',sd,hop,h1,h2,hu⟩:=convT_inv ho
 rw [hx] at hop;cases hop
 obtain ⟨u1,u2⟩:=u8_inv hu
 have hA:opA C e o s=opSel o.op C e o s:=rfl
 have hsz:(⟨⟨l⟩⟩:ByteArray).size=l.length:=rfl
 simp only [stepV,wantedA,hg,hA,hx,opSel,hv,convA,h1,h2,u1,u2,hsz,blt_true hl,Nat.beq_refl,Bool.and_self,cond_true]
 rfl
theorem bytes_noId (n:Nat):∀l:List UInt8,noIdL n (l.map byteV)=true
 | []=>by simp only [List.map_nil,noIdL]
 | b::r=>by simp only [List.map_cons,noIdL,byteV,noIdV,bytes_noId n r,Bool.and_self]
theorem bytes_same (l:List UInt8):sameL (l.map byteV) (l.map byteV)=true:=by
 refine sameL_refl fun j v hv=> ?_
 rw [List.getElem?_map] at hv
 cases hb:l[j]? with
 | none=>rw [hb] at hv;cases hv
 | some b=>rw [hb] at hv;cases hv;simp [byteV,sameV]
mutual
theorem closedB_noId {n:Nat}:∀(v:Value),closedB v=true->noIdV n v=true
 | .bool _,_ | .int _ _,_ | .float _ _,_ | .complex _ _ _,_ | .string _,_ | .nilFunc,_ | .nilIface,_=>by simp only [noIdV]
 | .pointer none,_ | .map none,_ | .chan none,_=>by simp only [noIdV]
 | .slice none _ _,_=>by simp only [noIdV]
 | .pointer (some _),h | .map (some _),h | .chan (some _),h=>by simp [closedB] at h
 | .slice (some _) _ _,h=>by simp [closedB] at h
 | .iface _ v,h=>by
   simp only [closedB] at h
   simp only [noIdV]
   exact closedB_noId v h
 | .agg cs,h=>by
   simp only [closedB] at h
   simp only [noIdV]
   exact closedA_noId cs h
 | .tuple cs,h=>by
   simp only [closedB] at h
   simp only [noIdV]
   exact closedA_noId cs h
 | .func (.func _) f c,h=>by
   simp only [closedB,Bool.and_eq_true] at h
   simp only [noIdV,Bool.and_eq_true]
   exact ⟨closedA_noId f h.1,closedA_noId c h.2⟩
 | .func (.yield _) _ _,h=>by simp [closedB] at h
theorem closedA_noId {n:Nat}:∀(v:Array Value),closedA v=true->noIdA n v=true
 | ⟨l⟩,h=>by
   simp only [closedA] at h
   simp only [noIdA]
   exact closedL_noId l h
theorem closedL_noId {n:Nat}:∀(v:List Value),closedL v=true->noIdL n v=true
 | [],_=>by simp only [noIdL]
 | v::r,h=>by
   simp only [closedL,Bool.and_eq_true] at h
   simp only [noIdL,Bool.and_eq_true]
   exact ⟨closedB_noId v h.1,closedL_noId r h.2⟩
end
theorem zero_noId {t:TypeId} {z:Value} (h:C.zero t=some z) (n:Nat):noIdL n (cellsOf' z)=true:=by
 have hc:closedB z=true:=by
  unfold Cx.zero at h
  split at h
  · split at h
    · rename_i z' hz
      cases hb:closedB z' with
      | false=>rw [hb] at h;cases h
      | true=>rw [hb] at h;cases h;exact hb
    · cases h
  · cases h
 unfold cellsOf'
 split
 · rename_i cs
   simp only [closedB] at hc
   obtain ⟨l⟩:=cs
   simp only [closedA] at hc
   exact closedL_noId l hc
 · simp only [noIdL,closedB_noId z hc,Bool.and_self]
theorem quiet_ok (hs:Sim C σ s g A) {e:SE} {e':E} (he:RE s.heap g σ.next e e') {ops:List Oper} {o:Oper} {ps:List Prop} {a:SV} (hq:quietW C ops e σ o=some (ps,a)) (hps:PS ps):
 ∃v,RV s.heap g σ.next a v/\∀(rec:Rec) (s':St),Stay s.heap g (fpOp C e o.op) s'.heap->stepV C rec ops o e' s'=some (v,s'):=by
 obtain ⟨hg1,hg2⟩:=guard_rel he (ops:=ops) (o:=o)
 unfold quietW at hq
 split at hq
 · cases hq
 · rename_i hg
   obtain ⟨v,h1,h2,_⟩:=val_sound hs he (o:=o) rfl hq hps
   refine ⟨v,h2,fun rec s' hst=> ?_⟩
   have h3:=val_stay (n':=s'.next) hs he (o:=o) rfl hq hps hst h1
   have h4:opA C e' o s'= .ok (.value v) s':=h3
   simp only [stepV,hg1 hg,h4]
 · rename_i d b vt vf hg
   obtain ⟨hwant,_,_⟩:=hg2 d b vt vf hg
   split at hq
   · rename_i ps' v' hv
     simp only [Option.some.injEq,Prod.mk.injEq] at hq
     obtain ⟨rfl,rfl⟩:=hq
     cases b with
     | true=>
       have hps':PS ps':=fun p hp=>hps (true=true->p) (List.mem_map.2 ⟨p,hp,rfl⟩) rfl
       obtain ⟨v,h1,h2,_⟩:=val_sound hs he (o:=o) rfl hv hps'
       refine ⟨v,.may true _ v (fun _=>h2) (fun e=>by cases e),fun rec s' hst=> ?_⟩
       have h3:=val_stay (n':=s'.next) hs he (o:=o) rfl hv hps' hst h1
       have h4:opA C e' o s'= .ok (.value v) s':=h3
       simp only [stepV,hwant,h4]
     | false=>
       refine ⟨undef,.may false _ undef (fun e=>by cases e) (fun _=>rfl),fun rec s' hst=> ?_⟩
       simp only [stepV,hwant]
   · simp only [Option.some.injEq,Prod.mk.injEq] at hq
     obtain ⟨rfl,rfl⟩:=hq
     have hb:b=false:=hps _ (List.mem_singleton.2 rfl)
     subst hb
     refine ⟨undef,.may false _ undef (fun e=>by cases e) (fun _=>rfl),fun rec s' hst=> ?_⟩
     simp only [stepV,hwant]
theorem heavy_ok {rw:SRec} (hrec:RecWOk C rw) (hs:Sim C σ s g A) {e:SE} {e':E} (he:RE s.heap g σ.next e e') {ops:List Oper} {o:Oper} {k:SV->SS->Prop} (hwant:wantedA ops e' o=some true) (hw:heavyW C rw e o σ k):
 ∃v s' a σ' g' A' M,(∀n,M<=n->stepV C (recOf C n) ops o e' s=some (v,s'))/\k a σ'/\RV s'.heap g' σ'.next a v/\Sim C σ' s' g' A'/\Xt σ s g A σ' s' g' A':=by
 unfold heavyW at hw
 obtain ⟨_,hop⟩:=op_sound hs he hw
 have hopA:opA C e' o s=opSel o.op C e' o s:=rfl
 generalize hr:opSel o.op C e' o s=r at hop
 cases hop with
 | val v s' a σ' g' h1 h2 h3 h4=>exact ⟨v,s',a,σ',g',_,0,fun n _=>by simp only [stepV,hwant,hopA,hr],h1,h2,h3,h4⟩
 | enter f l args h1 h2=>
   obtain ⟨out,hc,hf⟩:=hrec.call _ _ _ _ _ _ _ h1 s g A args .run hs h2 trivial
   cases hc with
   | body fn out M i1 i2 i3=>
     rw [enter_of i1 i2] at hr
     cases out with
     | fail=>exact hf.elim
     | returned v u' s'=>
       obtain ⟨a,su',σ',g',A',j1,j2,j3,j4,j5⟩:=hf
       exact ⟨v,s',a,σ',g',A',M,fun n hn=>by simp only [stepV,hwant,hopA,hr,i3 n hn],j1,j2,j4,j5⟩
     | panicked ch u' s'=>
       obtain ⟨c,su',σ',g',A',j1,_⟩:=hf
       exact j1.elim
   | ext v s' i1 i2=>
     rw [i2] at hr
     obtain ⟨a,su',σ',g',A',j1,j2,j3,j4,j5⟩:=hf
     exact ⟨v,s',a,σ',g',A',0,fun n _=>by simp only [stepV,hwant,hopA,hr],j1,j2,j4,j5⟩
 | pan v a h1 h2=>exact h1.elim
 | dfr d d' h1 h2=>exact h1.elim
 | recover h1=>exact h1.elim
theorem pure_ok {rw:SRec} (hrec:RecWOk C rw) (hs:Sim C σ s g A) {e:SE} {e':E} (he:RE s.heap g σ.next e e') {ops:List Oper} {o:Oper} (hwant:wantedA ops e' o=some true) {f:FuncId} {P:PSpec} (hP:pureF rw o=some (f,P)) {x:P.X} (hw:pureW C f P x e o σ):
 ∃v s' g' A' M,(∀n,M<=n->stepV C (recOf C n) ops o e' s=some (v,s'))/\RV s'.heap g' σ.next (P.val x) v/\Sim C σ s' g' A'/\Xt σ s g A σ s' g' A':=by
 have hP':rw.pure f=some P:=by
  unfold pureF at hP
  split at hP
  · split at hP
    · rename_i Q hQ
      cases hP
      exact hQ
    · cases hP
  · cases hP
 unfold pureW at hw
 obtain ⟨_,hop⟩:=op_sound hs he hw
 have hopA:opA C e' o s=opSel o.op C e' o s:=rfl
 generalize hr:opSel o.op C e' o s=r at hop
 cases hop with
 | val v s' a σ' g' h1 h2 h3 h4=>exact h1.elim
 | enter f' l args h1 h2=>
   simp only at h1
   cases hb:Nat.beq f' f with
   | false=>rw [hb] at h1;exact h1.elim
   | true=>
   rw [hb] at h1
   have:=Nat.eq_of_beq_eq_true hb
   subst this
   obtain ⟨v,s',g',A',hc,j1,j2,j3⟩:=hrec.pure _ P hP' x l σ h1 s g A args hs h2
   cases hc with
   | body fn out M i1 i2 i3=>
     rw [enter_of i1 i2] at hr
     exact ⟨v,s',g',A',M,fun n hn=>by simp only [stepV,hwant,hopA,hr,i3 n hn],j1,j2,j3⟩
   | ext v s' i1 i2=>
     rw [i2] at hr
     exact ⟨v,s',g',A',0,fun n _=>by simp only [stepV,hwant,hopA,hr],j1,j2,j3⟩
 | pan v a h1 h2=>exact h1.elim
 | dfr d d' h1 h2=>exact h1.elim
 | recover h1=>exact h1.elim
theorem firstPt_spec {x:Nat}:∀{l:List PtS} {p:PtS},firstPt x l=some p->∃l1 l2,l=l1++p::l2/\subB x p.done=true/\∀q,q∈l2->subB x q.done=false
 | p0::r,p,h=>by
   simp only [firstPt,subF_eq] at h
   split at h
   · rename_i q hq
     cases h
     obtain ⟨l1,l2,h1,h2,h3⟩:=firstPt_spec hq
     exact ⟨p0::l1,l2,by rw [h1];rfl,h2,h3⟩
   · rename_i hn
     cases hb:subB x p0.done with
     | false=>rw [hb] at h;cases h
     | true=>
       rw [hb] at h
       cases h
       refine ⟨[],r,rfl,hb,fun q hq=> ?_⟩
       exact firstPt_none hn q hq
where
 firstPt_none {x:Nat}:∀{l:List PtS},firstPt x l=none->∀q,q∈l->subB x q.done=false
  | [],_,q,hq=>by cases hq
  | p0::r,h,q,hq=>by
    simp only [firstPt,subF_eq] at h
    split at h
    · cases h
    · rename_i hn
      cases hb:subB x p0.done with
      | true=>rw [hb] at h;cases h
      | false=>
        rcases List.mem_cons.1 hq with rfl | hq
        · exact hb
        · exact firstPt_none hn q hq
theorem needsOk_spec {m need:Nat} {W:T Nat}:∀{n:Nat},needsOk m need W n=true->∀j,j<n->bitB m j=true->∃w,W.get j=some w/\subB w need=true
 | n+1,h,j,hj,hb=>by
   simp only [needsOk,Bool.and_eq_true] at h
   by_cases e:j=n
   · subst e
     have h1:=h.1
     rw [hb] at h1
     simp only [Bool.not_true,Bool.false_or] at h1
     split at h1
     · rename_i w hw;exact ⟨w,hw,h1⟩
     · cases h1
   · exact needsOk_spec h.2 j (by omega) hb
theorem stay_of {σ':SS} {s':St} {g':Gh} {A':Nat->Prop} (hs:Sim C σ s g A) (hx:Xt σ s g A σ' s' g' A') {fp:List Nat} (h:stayOk σ.next σ' fp=true):Stay s.heap g fp s'.heap:=by
 refine ⟨fun id hid=>hx.prot id (hs.HA id hid),fun l hl eid he=> ?_⟩
 have key:∀{fp:List Nat},stayOk σ.next σ' fp=true->l∈fp->∃o,σ'.own.get l=some o/\o.stamp<σ.next:=by
  intro fp
  induction fp with
  | nil=>intro _ h;cases h
  | cons x r ih=>
    intro h hm
    simp only [stayOk,bltF_eq,Bool.and_eq_true] at h
    rcases List.mem_cons.1 hm with rfl | hm
    · have h1:=h.1
      split at h1
      · rename_i o ho
        exact ⟨o,ho,by rw [Nat.blt_eq] at h1;exact h1⟩
      · cases h1
    · exact ih h.2 hm
 obtain ⟨o,h1,h2⟩:=key h hl
 exact hx.same l o eid (hx.keep l o h1 h2) h1 he
theorem subB_trans {a b c:Nat} (h1:subB a b=true) (h2:subB b c=true):subB a c=true:=by
 rw [subB_iff] at*
 exact fun j h=>h2 j (h1 j h)
theorem subB_refl (a:Nat):subB a a=true:=by rw [subB_iff];exact fun _ h=>h
theorem mask_lt {ops:List Oper} {cls:T Nat} (hm:Masks ops cls):∀(i:Nat) (m:Nat),i<ops.length->cls.get i=some m->∀j,bitB m j=true->j<i:=by
 intro i
 induction i using Nat.strongRecOn with
 | ind i ih=>
   intro m hi hc j hj
   obtain ⟨m',h1,h2,h3⟩:=hm i _ (List.getElem?_eq_getElem hi)
   rw [hc] at h1;cases h1
   obtain ⟨e,he,hb,h4 | ⟨k,h4,h5⟩⟩:=h3 j hj
   · have:=h2 e he hb;omega
   · have hlt:=h2 e he hb
     have:=ih e.on hlt k (by omega) h4 j h5
     omega
end
end Go.Eng
namespace Go.Eng
section
variable {C:Cx} {σ:SS} {s:St} {g:Gh} {A:Nat->Prop}
structure HT where
 p:PtS
 B:St
 g:Gh
 A:Nat->Prop
 M:T Info
def HT.pt (t:HT):Pt:=⟨t.B,t.M,t.p.done,t.p.clos⟩
def HT.xt (a b:HT):Prop:=Xt a.p.σ a.B a.g a.A b.p.σ b.B b.g b.A
def HT.sim (C:Cx) (t:HT):Prop:=Sim C t.p.σ t.B t.g t.A
theorem HT.xt_trans {C:Cx} {a b c:HT} (hs:a.sim C) (h1:a.xt b) (h2:b.xt c):a.xt c:=Xt.trans hs h1 h2
theorem HT.xt_refl (a:HT):a.xt a:=Xt.refl
def QOk (C:Cx) (ops:List Oper) (dm cls:T Nat) (baseE:E) (V':T Value) (M:T Info) (qs:List QuS) (all:List HT) (cur:HT) (j:Nat):Prop:=
 ∃(o:Oper) (m:Nat) (v:Value) (q:QuS) (t0:HT) (D:Nat),ops[j]? =some o/\cls.get j=some m/\V'.get j=some v/\q∈qs/\q.i=j/\q.m=m/\quietB C o.op=true/\sameV v v=true/\
  t0.sim C/\t0.xt cur/\q.n=t0.p.σ.next/\subB D cur.p.done=true/\(∀x,bitB m x=true->x<j/\((V'.get x).isSome=true\/(M.get x).isSome=true))/\
  (∀V2 M2,(∀x,bitB m x=true->knownA V2 M2 x=knownA V' M x)->∀(rec:Rec) (s':St),Stay t0.B.heap t0.g q.fp s'.heap->stepV C rec ops o (envA baseE ops dm cls j m V2 M2 o) s'=some (v,s'))/\
  ∀t,t∈all->subB (Nat.land m D) t.p.done=true->t0.xt t
def NB (C:Cx) (ops:List Oper) (dm cls:T Nat) (baseE:E) (V':T Value) (M:T Info) (j m:Nat) (o:Oper) (vf:Nat->Value) (b:Blk):Prop:=
 quietB C o.op=true/\(∀x,bitB m x=true->x<j/\((V'.get x).isSome=true\/(M.get x).isSome=true))/\(∀n,sameV (vf n) (vf n)=true)/\sameB b b=true/\(∀n,noIdB n b=true)/\
 ∀V2 M2,(∀x,bitB m x=true->knownA V2 M2 x=knownA V' M x)->∀(rec:Rec) (s':St),stepV C rec ops o (envA baseE ops dm cls j m V2 M2 o) s'=some (vf s'.next,s'.new b)
def FI (C:Cx) (ops:List Oper) (dm cls:T Nat) (baseE:E) (V':T Value) (M:T Info) (j:Nat) (f:Info):Prop:=
 ∃o m vf,ops[j]? =some o/\cls.get j=some m/\NB C ops dm cls baseE V' M j m o vf f.b/\f.v=vf f.id
def PN (C:Cx) (ops:List Oper) (dm cls:T Nat) (baseE:E) (V:T SV) (V':T Value) (M:T Info) (j:Nat) (o:Oper):Prop:=
 ((allocT o).isSome=true/\cls.get j=some 0)\/(allocT o=none/\∃m e l,convT C o=some e/\cls.get j=some m/\V.get j=some (.str l)/\
   NB C ops dm cls baseE V' M j m o (fun n=> .slice (some ⟨n,0,none⟩) l.length (2*l.length+1)) (.cells (l.map byteV) e 0 none))
def Kn (V':T Value) (M:T Info) (V2:T Value) (M2:T Info):Prop:=∀x,(V'.get x).isSome=true\/(M.get x).isSome=true->knownA V2 M2 x=knownA V' M x/\((V2.get x).isSome=true\/(M2.get x).isSome=true)
theorem Kn.refl {V':T Value} {M:T Info}:Kn V' M V' M:=fun _ h=>⟨rfl,h⟩
theorem NB.step {C:Cx} {ops:List Oper} {dm cls:T Nat} {baseE:E} {V' V2:T Value} {M M2:T Info} {j m:Nat} {o:Oper} {vf:Nat->Value} {b:Blk} (h:NB C ops dm cls baseE V' M j m o vf b) (hk:Kn V' M V2 M2):NB C ops dm cls baseE V2 M2 j m o vf b:=by
 obtain ⟨h1,h2,h3,h4,h5,h6⟩:=h
 refine ⟨h1,fun x hx=>⟨(h2 x hx).1,(hk x (h2 x hx).2).2⟩,h3,h4,h5,fun V3 M3 h7=>h6 V3 M3 fun x hx=> ?_⟩
 rw [h7 x hx,(hk x (h2 x hx).2).1]
theorem FI.step {C:Cx} {ops:List Oper} {dm cls:T Nat} {baseE:E} {V' V2:T Value} {M M2:T Info} {j:Nat} {f:Info} (h:FI C ops dm cls baseE V' M j f) (hk:Kn V' M V2 M2):FI C ops dm cls baseE V2 M2 j f:=by
 obtain ⟨o,m,vf,h1,h2,h3,h4⟩:=h
 exact ⟨o,m,vf,h1,h2,h3.step hk,h4⟩
theorem PN.step {C:Cx} {ops:List Oper} {dm cls:T Nat} {baseE:E} {V1 V:T SV} {V' V2:T Value} {M M2:T Info} {j:Nat} {o:Oper} (h:PN C ops dm cls baseE V V' M j o) (hV:V1.get j=V.get j) (hk:Kn V' M V2 M2):PN C ops dm cls baseE V1 V2 M2 j o:=by
 rcases h with h | ⟨h0,m,e,l,h1,h2,h3,h4⟩
 · exact .inl h
 · exact .inr ⟨h0,m,e,l,h1,h2,by rw [hV];exact h3,h4.step hk⟩
structure PI (C:Cx) (ops:List Oper) (dm cls:T Nat) (base:SE) (baseE:E) (i:Nat) (V:T SV) (W:T Nat) (qs:List QuS) (pend:List (Nat×Oper)) (V':T Value) (hist:List HT) (cur:HT):Prop where
 sims:∀t,t∈cur::hist->t.sim C
 base:∀t,t∈cur::hist->RE t.B.heap t.g t.p.σ.next base baseE
 pw:(cur::hist).Pairwise fun a b=>b.xt a
 lt:∀j,bitB cur.p.done j=true->j<i
 sub:∀t,t∈cur::hist->subB t.p.done cur.p.done=true
 vals:∀j,j<i->(∃o,(j,o)∈pend)\/∃a v w,V.get j=some a/\knownA V' cur.M j=some v/\W.get j=some w/\subB w cur.p.done=true/\∀t,t∈cur::hist->subB w t.p.done=true->RV t.B.heap t.g t.p.σ.next a v
 non:∀j,i<=j->V'.get j=none/\cur.M.get j=none/\W.get j=none
 mm:∀t,t∈cur::hist->∀j,(t.M.get j).isSome=true->(cur.M.get j).isSome=true
 pnd:∀j o,(j,o)∈pend->j<i/\ops[j]? =some o/\PN C ops dm cls baseE V V' cur.M j o/\True/\V'.get j=none/\cur.M.get j=none/\W.get j=none/\bitB cur.p.done j=false
 nodup:(pend.map (·.1)).Nodup
 inf:∀j f,cur.M.get j=some f->FI C ops dm cls baseE V' cur.M j f/\V'.get j=none/\f.id<cur.B.next/\bitB cur.p.done j=false/\
  ∀t,t∈cur::hist->(bitB t.p.clos j=true/\(t.M.get j).isSome=true)\/(t.M.get j=none/\t.B.next<=f.id)
 inj:∀j j' f f',cur.M.get j=some f->cur.M.get j'=some f'->f.id=f'.id->j=j'
 q:∀j,j<i->bitB cur.p.done j=true\/QOk C ops dm cls baseE V' cur.M qs (cur::hist) cur j\/(∃o,(j,o)∈pend)\/(cur.M.get j).isSome=true
section
variable {ops:List Oper} {dm cls:T Nat} {base:SE} {baseE:E} {i:Nat} {V:T SV} {W:T Nat} {qs:List QuS} {pend:List (Nat×Oper)} {V':T Value} {hist:List HT} {cur:HT}
theorem knownA_of {V':T Value} {M:T Info} {j:Nat} {v:Value} (h:V'.get j=some v):knownA V' M j=some v:=by unfold knownA;rw [h]
theorem knownA_mrg {V':T Value} {M:T Info} {j:Nat} {f:Info} (h:V'.get j=none) (h2:M.get j=some f):knownA V' M j=some f.v:=by unfold knownA;rw [h,h2]
theorem knownA_some {V':T Value} {M:T Info} {j:Nat} {v:Value} (h:knownA V' M j=some v):(V'.get j).isSome=true\/(M.get j).isSome=true:=by
 unfold knownA at h
 split at h
 · rename_i hv;rw [hv];exact .inl rfl
 · split at h
   · rename_i hv;rw [hv];exact .inr rfl
   · cases h
theorem PI.congr (h:PI C ops dm cls base baseE i V W qs pend V' hist cur) {V1:T SV} (hV:∀j,V1.get j=V.get j):PI C ops dm cls base baseE i V1 W qs pend V' hist cur:=
 ⟨h.sims,h.base,h.pw,h.lt,h.sub,fun j hj=>by rw [hV];exact h.vals j hj,h.non,h.mm,fun j o hm=>(by obtain ⟨b1,b2,b3,b4⟩:=h.pnd j o hm;exact ⟨b1,b2,b3.step (hV j) .refl,b4⟩),h.nodup,h.inf,h.inj,h.q⟩
structure MG (C:Cx) (ops:List Oper) (dm cls:T Nat) (baseE:E) (V':T Value) (keep:Nat->Bool) (w:Nat) (l:List (Nat×Oper)) (V:T SV) (W:T Nat) (σ:SS) (s:St) (g:Gh) (A:Nat->Prop) (M:T Info)
 (V1:T SV) (W1:T Nat) (σ1:SS) (s1:St) (g1:Gh) (M1:T Info) (l1:List (Nat×Oper)):Prop where
 sim:Sim C σ1 s1 g1 A
 xt:Xt σ s g A σ1 s1 g1 A
 old:∀j,(∀o,(j,o)∈l->keep j=false)->V1.get j=V.get j/\W1.get j=W.get j/\M1.get j=M.get j
 new:∀j o,(j,o)∈l->keep j=true->W1.get j=some w/\∃f a,M1.get j=some f/\FI C ops dm cls baseE V' M1 j f/\V1.get j=some a/\RV s1.heap g1 σ1.next a f.v/\s.next<=f.id/\f.id<s1.next
 inj:∀j j' o o' f f',(j,o)∈l->keep j=true->(j',o')∈l->keep j'=true->M1.get j=some f->M1.get j'=some f'->f.id=f'.id->j=j'
 rest:∀x,x∈l1↔x∈l/\keep x.1=false
 nodup:(l1.map (·.1)).Nodup
theorem knownAll_of {V:T Value} {M:T Info} {m:Nat} (h:∀x,bitB m x=true->(V.get x).isSome=true\/(M.get x).isSome=true):∀n,knownAllA V M m n=true
 | 0=>rfl
 | n+1=>by
   simp only [knownAllA,knownAll_of h n,Bool.and_true,Bool.or_eq_true,Bool.not_eq_true']
   cases hb:bitB m n with
   | false=>exact .inl rfl
   | true=>exact .inr (h n hb)
theorem merge_ok {keep:Nat->Bool} {w:Nat}:∀{l:List (Nat×Oper)} {V:T SV} {W:T Nat} {σ:SS} {s:St} {g:Gh} {A:Nat->Prop} {M:T Info} {V1:T SV} {W1:T Nat} {σ1:SS} {l1:List (Nat×Oper)},Sim C σ s g A->
 mergeW C keep w l V W σ=some (V1,W1,σ1,l1)->(∀j o,(j,o)∈l->ops[j]? =some o/\PN C ops dm cls baseE V V' M j o/\V'.get j=none/\M.get j=none)->(l.map (·.1)).Nodup->
 ∃M1 s1 g1,(∀rec,mergeA C rec ⟨ops,dm,cls,baseE⟩ keep l V' M s=some (V',M1,s1,l1))/\MG C ops dm cls baseE V' keep w l V W σ s g A M V1 W1 σ1 s1 g1 M1 l1
 | [],V,W,σ,s,g,A,M,V1,W1,σ1,l1,hs,h,hp,hn=>by
   simp only [mergeW,Option.some.injEq,Prod.mk.injEq] at h
   obtain ⟨rfl,rfl,rfl,rfl⟩:=h
   exact ⟨M,s,g,fun rec=>by simp only [mergeA],hs,.refl,fun _ _=>⟨rfl,rfl,rfl⟩,fun j o h=>(by cases h),fun j j' o o' f f' h=>(by cases h),fun x=>by simp,by simp⟩
 | (j0,o0)::r,V,W,σ,s,g,A,M,V1,W1,σ1,l1,hs,h,hp,hn=>by
   obtain ⟨e1,e2,e3,e4⟩:=hp j0 o0 (List.mem_cons_self ..)
   simp only [List.map_cons,List.nodup_cons] at hn
   have hne:∀j o,(j,o)∈r->j≠j0:=fun j o hm e=>hn.1 (List.mem_map.2 ⟨(j,o),hm,e⟩)
   simp only [mergeW] at h
   cases hk:keep j0 with
   | true=>
     rw [hk] at h
     simp only [cond_true] at h
     have common:∀{m:Nat} {a0:SV} {sb:SB} {vf:Nat->Value} {b:Blk},cls.get j0=some m->NB C ops dm cls baseE V' M j0 m o0 vf b->Sim C (σ.new sb) (s.new b) (g.set σ.next (some s.next)) A->
      Xt σ s g A (σ.new sb) (s.new b) (g.set σ.next (some s.next)) A->RV (s.new b).heap (g.set σ.next (some s.next)) (σ.new sb).next a0 (vf s.next)->mergeW C keep w r (V.set j0 a0) (W.set j0 w) (σ.new sb)=some (V1,W1,σ1,l1)->
      ∃M1 s1 g1,(∀rec,mergeA C rec ⟨ops,dm,cls,baseE⟩ keep ((j0,o0)::r) V' M s=some (V',M1,s1,l1))/\MG C ops dm cls baseE V' keep w ((j0,o0)::r) V W σ s g A M V1 W1 σ1 s1 g1 M1 l1:=by
      intro m a0 sb vf b hcm hNB k1 k2 hrv h
      have hset:Kn V' M V' (M.set j0 ⟨s.next,vf s.next,b⟩):=by
       intro x hx
       have hM:V'.get x=none->(M.set j0 ⟨s.next,vf s.next,b⟩).get x=M.get x:=fun hnx=>by
        rw [T.get_set,if_neg]
        rintro rfl
        rw [hnx,e4] at hx
        rcases hx with hx | hx<;>cases hx
       refine ⟨?_, ?_⟩
       · unfold knownA
         cases hVx:V'.get x with
         | some _=>rfl
         | none=>simp only [hM hVx]
       · rcases hx with hx | hx
         · exact .inl hx
         · cases hVx:V'.get x with
           | some _=>exact .inl rfl
           | none=>exact .inr (by rw [hM hVx];exact hx)
      have hp2:∀j o,(j,o)∈r->ops[j]? =some o/\PN C ops dm cls baseE (V.set j0 a0) V' (M.set j0 ⟨s.next,vf s.next,b⟩) j o/\V'.get j=none/\(M.set j0 ⟨s.next,vf s.next,b⟩).get j=none:=by
       intro j o hm
       obtain ⟨a1,a2,a3,a4⟩:=hp j o (List.mem_cons_of_mem _ hm)
       exact ⟨a1,a2.step (by rw [T.get_set,if_neg (hne j o hm)]) hset,a3,by rw [T.get_set,if_neg (hne j o hm)];exact a4⟩
      obtain ⟨M1,s1,g1,hA,hG⟩:=merge_ok k1 h hp2 hn.2
      have hold:=hG.old j0 fun o hm=>absurd rfl (hne j0 o hm)
      have hM1:M1.get j0=some ⟨s.next,vf s.next,b⟩:=by rw [hold.2.2,T.get_set,if_pos rfl]
      have hsnx:s.next+1<=s1.next:=hG.xt.snx
      have hlast:Kn V' (M.set j0 ⟨s.next,vf s.next,b⟩) V' M1:=by
       intro x hx
       have hM:V'.get x=none->M1.get x=(M.set j0 ⟨s.next,vf s.next,b⟩).get x:=fun hnx=>by
        refine (hG.old x fun o hm=> ?_).2.2
        obtain ⟨_,_,q1,q2⟩:=hp2 x o hm
        rw [hnx,q2] at hx
        rcases hx with hx | hx<;>cases hx
       refine ⟨?_, ?_⟩
       · unfold knownA
         cases hVx:V'.get x with
         | some _=>rfl
         | none=>simp only [hM hVx]
       · rcases hx with hx | hx
         · exact .inl hx
         · cases hVx:V'.get x with
           | some _=>exact .inl rfl
           | none=>exact .inr (by rw [hM hVx];exact hx)
      refine ⟨M1,s1,g1,fun rec=> ?_,hG.sim,Xt.trans hs k2 hG.xt,fun j hj=> ?_,fun j o hm hkj=> ?_,fun j j' o o' f f' h1 h2 h3 h4 h5 h6 h7=> ?_,fun x=> ?_,hG.nodup⟩
      · have hkn:knownAllA V' M m ops.length=true:=knownAll_of (fun x hx=>(hNB.2.1 x hx).2) _
        have h0:Nat.beq (s.new b).next s.next=false:=by
         rw [Bool.eq_false_iff];intro h;have:=Nat.eq_of_beq_eq_true h;simp only [St.new] at this;omega
        have hget:((⟨.nil,s.next⟩:St).new b).heap.get s.next=some b:=by simp only [St.new,T.get_set,if_pos]
        have hst:∀s':St,stepV C rec (Rg.ops ⟨ops,dm,cls,baseE⟩) o0 (Rg.env ⟨ops,dm,cls,baseE⟩ j0 m V' M o0) s'=some (vf s'.next,s'.new b):=fun s'=>hNB.2.2.2.2.2 V' M (fun _ _=>rfl) rec s'
        simp only [mergeA,hk,cond_true,hcm,hkn,hst,h0,cond_false,hget,e4,hA]
      · have:=hG.old j fun o hm=>hj o (List.mem_cons_of_mem _ hm)
        have hne0:j≠j0:=by rintro rfl;rw [hj o0 (List.mem_cons_self ..)] at hk;cases hk
        rw [T.get_set,T.get_set,T.get_set,if_neg hne0,if_neg hne0,if_neg hne0] at this
        exact this
      · rcases List.mem_cons.1 hm with e | hm
        · cases e
          refine ⟨by rw [hold.2.1,T.get_set,if_pos rfl],_,_,hM1,⟨o0,m,vf,e1,hcm,(hNB.step hset).step hlast,rfl⟩,by rw [hold.1,T.get_set,if_pos rfl], ?_,Nat.le_refl _,hsnx⟩
          exact hrv.mono hG.xt.grow
        · obtain ⟨a1,f,a,b1,b2,b3,b4,b5,b6⟩:=hG.new j o hm hkj
          refine ⟨a1,f,a,b1,b2,b3,b4, ?_,b6⟩
          have:s.next+1<=f.id:=b5
          omega
      · rcases List.mem_cons.1 h1 with e | h1
        · cases e
          rcases List.mem_cons.1 h3 with e | h3
          · cases e;rfl
          · obtain ⟨_,f2,a,b1,b2,b3,b4,b5,b6⟩:=hG.new j' o' h3 h4
            rw [h6] at b1;cases b1
            rw [hM1] at h5;cases h5
            have:s.next+1<=f'.id:=b5
            simp only at h7
            omega
        · rcases List.mem_cons.1 h3 with e | h3
          · cases e
            obtain ⟨_,f2,a,b1,b2,b3,b4,b5,b6⟩:=hG.new j o h1 h2
            rw [h5] at b1;cases b1
            rw [hM1] at h6;cases h6
            have:s.next+1<=f.id:=b5
            simp only at h7
            omega
          · exact hG.inj j j' o o' f f' h1 h2 h3 h4 h5 h6 h7
      · rw [hG.rest x]
        constructor
        · rintro ⟨a1,a2⟩;exact ⟨List.mem_cons_of_mem _ a1,a2⟩
        · rintro ⟨a1,a2⟩
          rcases List.mem_cons.1 a1 with e | a1
          · rw [e] at a2;rw [hk] at a2;cases a2
          · exact ⟨a1,a2⟩
     split at h
     · rename_i t ht
       split at h
       case h_2=>cases h
       rename_i z hz
       cases hb:(oneL z&&sureL z) with
       | false=>rw [hb] at h;cases h
       | true=>
       rw [hb] at h
       simp only [cond_true] at h
       simp only [Bool.and_eq_true] at hb
       obtain ⟨zv,hz1,hz2⟩:=zero_rel (h:=s.heap) (g:=g) (N:=σ.next) hz
       obtain ⟨k1,k2⟩:=new_cells hs (t:=t) hz2 hb.1
       have hsame:sameL (cellsOf' zv) (cellsOf' zv)=true:=by
        refine sameL_refl fun j v hv=> ?_
        have hl:=hz2.1
        have hj:j<z.length:=by rw [hl];exact (List.getElem?_eq_some_iff.1 hv).1
        exact sure_same (hz2.2 j _ v (List.getElem?_eq_getElem hj) hv) (sureL_get hb.2 (List.getElem?_eq_getElem hj))
       have hcl:cls.get j0=some 0:=by
        rcases e2 with ⟨_,e2⟩ | ⟨e2,_⟩
        · exact e2
        · rw [ht] at e2;cases e2
       have hqb:quietB C o0.op=true:=by
        unfold allocT at ht
        split at ht
        · split at ht
          · rename_i hop;rw [hop];rfl
          · cases ht
        · cases ht
       refine common (m:=0) (vf:=fun n=> .pointer (some ⟨n,0,none⟩)) hcl ⟨hqb,fun x hx=>(by rw [bit_zero] at hx;cases hx),fun n=> ?_, ?_,fun n=> ?_,fun V2 M2 _ rec s'=>alloc_step ht hz1 rec ops _ s'⟩ k1 k2 (newPtr_rv (Nat.lt_succ_self _)) h
       · simp [sameV]
       · simp [sameB,hsame]
       · simp only [noIdB,zero_noId hz1]
     · rename_i hal
       split at h
       case h_2=>cases h
       rename_i el l hct hVj
       rcases e2 with ⟨e2,_⟩ | ⟨_,m,e,l',p1,p2,p3,p4⟩
       · rw [hal] at e2;cases e2
       rw [hct] at p1;cases p1
       rw [hVj] at p3;cases p3
       obtain ⟨k1,k2⟩:=hs.new (b:= .bytes l el) (blk:= .cells (l.map byteV) el 0 none) (.bytes _ _ _) (fun q hq=>by cases hq)
       exact common p2 p4 k1 k2 (rv_newS (Nat.lt_succ_self _)) h
   | false=>
     rw [hk] at h
     simp only [cond_false] at h
     split at h
     case h_2=>cases h
     rename_i V2 W2 σ2 l2 hl
     simp only [Option.some.injEq,Prod.mk.injEq] at h
     obtain ⟨rfl,rfl,rfl,rfl⟩:=h
     obtain ⟨M1,s1,g1,hA,hG⟩:=merge_ok hs hl (fun j o hm=>hp j o (List.mem_cons_of_mem _ hm)) hn.2
     refine ⟨M1,s1,g1,fun rec=> ?_,hG.sim,hG.xt,fun j hj=>hG.old j fun o hm=>hj o (List.mem_cons_of_mem _ hm),fun j o hm hkj=> ?_,fun j j' o o' f f' h1 h2 h3 h4 h5 h6 h7=> ?_,fun x=> ?_, ?_⟩
     · simp only [mergeA,hk,cond_false,hA]
     · rcases List.mem_cons.1 hm with e | hm
       · cases e;rw [hk] at hkj;cases hkj
       · exact hG.new j o hm hkj
     · rcases List.mem_cons.1 h1 with e | h1
       · cases e;rw [hk] at h2;cases h2
       rcases List.mem_cons.1 h3 with e | h3
       · cases e;rw [hk] at h4;cases h4
       exact hG.inj j j' o o' f f' h1 h2 h3 h4 h5 h6 h7
     · simp only [List.mem_cons,hG.rest x]
       constructor
       · rintro (e | ⟨a1,a2⟩)
         · rw [e];exact ⟨.inl rfl,hk⟩
         · exact ⟨.inr a1,a2⟩
       · rintro ⟨e | a1,a2⟩
         · exact .inl e
         · exact .inr ⟨a1,a2⟩
     · simp only [List.map_cons,List.nodup_cons]
       refine ⟨fun hm=> ?_,hG.nodup⟩
       obtain ⟨x,hx,e⟩:=List.mem_map.1 hm
       exact hn.1 (List.mem_map.2 ⟨x,((hG.rest x).1 hx).1,e⟩)
theorem QOk.step {all all2:List HT} {cur2:HT} {M M2:T Info} {V2':T Value} {qs2:List QuS} {j:Nat} (h:QOk C ops dm cls baseE V' M qs all cur j) (hq:∀q,q∈qs->q∈qs2) (hV:∀x v,V'.get x=some v->V2'.get x=some v)
 (hk:∀x,(V'.get x).isSome=true\/(M.get x).isSome=true->knownA V2' M2 x=knownA V' M x/\((V2'.get x).isSome=true\/(M2.get x).isSome=true))
 (hx:cur.xt cur2) (hsub:subB cur.p.done cur2.p.done=true) (hall:∀t,t∈all2->t∈all\/cur.xt t/\t=cur2):QOk C ops dm cls baseE V2' M2 qs2 all2 cur2 j:=by
 obtain ⟨o,mj,v',q,t0,D,k1,k2,k3,k4,k5,k6,k7,k8,k9,k10,k11,k12,klt,k13,k14⟩:=h
 refine ⟨o,mj,v',q,t0,D,k1,k2,hV _ _ k3,hq _ k4,k5,k6,k7,k8,k9,HT.xt_trans k9 k10 hx,k11,subB_trans k12 hsub,fun x hb=>⟨(klt x hb).1,(hk x (klt x hb).2).2⟩,fun V2 M2' hV2 rec s2 hst=> ?_,fun t ht hb=> ?_⟩
 · refine k13 V2 M2' (fun x hb=> ?_) rec s2 hst
   rw [hV2 x hb,(hk x (klt x hb).2).1]
 · rcases hall t ht with ht | ⟨h1,rfl⟩
   · exact k14 t ht hb
   · exact HT.xt_trans k9 k10 hx
theorem PI.heavy (h:PI C ops dm cls base baseE i V W qs pend V' hist cur) {m:Nat} {V1 V2:T SV} {W1:T Nat} {σ1:SS} {s1:St} {g1:Gh} {M1:T Info} {pend1:List (Nat×Oper)}
 (hG:MG C ops dm cls baseE V' (bitB m) (Nat.shiftLeft 1 i) pend V W cur.p.σ cur.B cur.g cur.A cur.M V1 W1 σ1 s1 g1 M1 pend1) (hV2:∀j,V2.get j=V1.get j)
 {σ':SS} {s':St} {g':Gh} {A':Nat->Prop} {a:SV} {v:Value} (hv:RV s'.heap g' σ'.next a v) (hs:Sim C σ' s' g' A') (hx1:Xt σ1 s1 g1 cur.A σ' s' g' A'):
 PI C ops dm cls base baseE (i+1) (V2.set i a) (W1.set i (Nat.shiftLeft 1 i)) qs pend1 (V'.set i v) (cur::hist) ⟨⟨σ',Nat.lor cur.p.done (Nat.shiftLeft 1 i),Nat.lor cur.p.clos m⟩,s',g',A',M1⟩:=by
 have hcs:=h.sims cur (List.mem_cons_self ..)
 have hx:Xt cur.p.σ cur.B cur.g cur.A σ' s' g' A':=Xt.trans hcs hG.xt hx1
 have hsub:subB cur.p.done (Nat.lor cur.p.done (Nat.shiftLeft 1 i))=true:=by
  rw [subB_iff];intro j hj;rw [bit_lor,hj];rfl
 have fromcur:∀t,t∈cur::hist->t.xt ⟨⟨σ',Nat.lor cur.p.done (Nat.shiftLeft 1 i),Nat.lor cur.p.clos m⟩,s',g',A',M1⟩:=by
  intro t ht
  have:t.xt cur:=by
   rcases List.mem_cons.1 ht with rfl | ht
   · exact t.xt_refl
   · exact (List.pairwise_cons.1 h.pw).1 t ht
  exact HT.xt_trans (h.sims t ht) this hx
 have tocur:∀t,t∈cur::hist->t.B.next<=cur.B.next:=by
  intro t ht
  rcases List.mem_cons.1 ht with rfl | ht
  · exact Nat.le_refl _
  · have hh:Xt t.p.σ t.B t.g t.A cur.p.σ cur.B cur.g cur.A:=(List.pairwise_cons.1 h.pw).1 t ht
    exact hh.snx
 have two:∀j,(∃o,(j,o)∈pend/\bitB m j=true)\/(V1.get j=V.get j/\W1.get j=W.get j/\M1.get j=cur.M.get j):=by
  intro j
  by_cases e:∃o,(j,o)∈pend/\bitB m j=true
  · exact .inl e
  · refine .inr (hG.old j fun o ho=> ?_)
    cases hb:bitB m j with
    | false=>rfl
    | true=>exact absurd ⟨o,ho,hb⟩ e
 have hni:∀j,j≠i->(V'.set i v).get j=V'.get j:=fun j hj=>by rw [T.get_set,if_neg hj]
 have bitnew:∀j,j<i->bitB cur.p.done j=false->bitB (Nat.lor cur.p.done (Nat.shiftLeft 1 i)) j=false:=by
  intro j hj hb
  rw [bit_lor,bit_one,hb,Bool.false_or,decide_eq_false_iff_not];omega
 have some1:∀j,(cur.M.get j).isSome=true->M1.get j=cur.M.get j:=by
  intro j hj
  rcases two j with ⟨o,h1,h2⟩ | h1
  · obtain ⟨_,_,_,_,_,h6,_⟩:=h.pnd j o h1
    rw [h6] at hj;cases hj
  · exact h1.2.2
 have hkn:Kn V' cur.M (V'.set i v) M1:=by
  intro x hx
  have hxi:x≠i:=by
   rintro rfl
   obtain ⟨n1,n2,_⟩:=h.non x (Nat.le_refl _)
   rw [n1,n2] at hx
   rcases hx with hx | hx<;>cases hx
  have key:V'.get x=none->M1.get x=cur.M.get x:=fun hn=>by
   rcases hx with hx | hx
   · rw [hn] at hx;cases hx
   · exact some1 x hx
  constructor
  · unfold knownA
    rw [hni x hxi]
    cases hVx:V'.get x with
    | some _=>rfl
    | none=>simp only [key hVx]
  · rw [hni x hxi]
    rcases hx with hx | hx
    · exact .inl hx
    · exact .inr (by rw [some1 x hx];exact hx)
 have hkn1:Kn V' M1 (V'.set i v) M1:=by
  intro x hx
  have hxi:x≠i:=by
   rintro rfl
   obtain ⟨n1,n2,_⟩:=h.non x (Nat.le_refl _)
   have:M1.get x=none:=by
    rcases two x with ⟨o,h1,h2⟩ | h1
    · have:=(h.pnd x o h1).1;omega
    · rw [h1.2.2];exact n2
   rw [n1,this] at hx
   rcases hx with hx | hx<;>cases hx
  exact ⟨by unfold knownA;rw [hni x hxi],by rw [hni x hxi];exact hx⟩
 refine ⟨fun t ht=> ?_,fun t ht=> ?_,List.pairwise_cons.2 ⟨fromcur,h.pw⟩,fun j hj=> ?_,fun t ht=> ?_,fun j hj=> ?_,fun j hj=> ?_,fun t ht j hj=> ?_,fun j o hm=> ?_,hG.nodup,fun j f hf=> ?_,fun j j' f f' h1 h2 he=> ?_,fun j hj=> ?_⟩
 · rcases List.mem_cons.1 ht with rfl | ht
   · exact hs
   · exact h.sims t ht
 · rcases List.mem_cons.1 ht with rfl | ht
   · exact (h.base cur (List.mem_cons_self ..)).mono hx.grow
   · exact h.base t ht
 · simp only [bit_lor,bit_one,Bool.or_eq_true,decide_eq_true_eq] at hj
   rcases hj with hj | hj
   · have:=h.lt j hj;omega
   · omega
 · rcases List.mem_cons.1 ht with rfl | ht
   · exact subB_refl _
   · exact subB_trans (h.sub t ht) hsub
 · -- vals
   have own:∀{a':SV} {v':Value},RV s'.heap g' σ'.next a' v'->∀t,t∈(⟨⟨σ',Nat.lor cur.p.done (Nat.shiftLeft 1 i),Nat.lor cur.p.clos m⟩,s',g',A',M1⟩:HT)::cur::hist->subB (Nat.shiftLeft 1 i) t.p.done=true->RV t.B.heap t.g t.p.σ.next a' v':=by
    intro a' v' hv t ht hb
    rcases List.mem_cons.1 ht with rfl | ht
    · exact hv
    · have h1:=subB_trans hb (h.sub t ht)
      rw [subB_iff] at h1
      have:=h.lt i (h1 i (by rw [bit_one];simp))
      omega
   have hsh:subB (Nat.shiftLeft 1 i) (Nat.lor cur.p.done (Nat.shiftLeft 1 i))=true:=by rw [subB_iff];intro x hx;rw [bit_lor,hx,Bool.or_true]
   by_cases e:j=i
   · subst e
     exact .inr ⟨a,v,Nat.shiftLeft 1 j,by rw [T.get_set,if_pos rfl],knownA_of (by rw [T.get_set,if_pos rfl]),by rw [T.get_set,if_pos rfl],hsh,own hv⟩
   · rcases two j with ⟨o,h1,h2⟩ | ⟨h1,h2,h3⟩
     · obtain ⟨b1,f,a',b2,b3,b4,b5,b6,b7⟩:=hG.new j o h1 h2
       obtain ⟨_,_,_,_,h5,_⟩:=h.pnd j o h1
       refine .inr ⟨a',f.v,Nat.shiftLeft 1 i,by rw [T.get_set,if_neg e,hV2];exact b4,knownA_mrg (by rw [hni j e];exact h5) b2,by rw [T.get_set,if_neg e];exact b1,hsh,own (b5.mono hx1.grow)⟩
     · rcases h.vals j (by omega) with ⟨o,ho⟩ | ⟨a',v',w,k1,k2,k3,k4,k5⟩
       · refine .inl ⟨o,(hG.rest _).2 ⟨ho, ?_⟩⟩
         cases hb:bitB m j with
         | false=>rfl
         | true=>
           obtain ⟨b1,f,a',b2,_⟩:=hG.new j o ho hb
           obtain ⟨_,_,_,_,_,h6,_⟩:=h.pnd j o ho
           rw [h3,h6] at b2;cases b2
       · refine .inr ⟨a',v',w,by rw [T.get_set,if_neg e,hV2,h1];exact k1, ?_,by rw [T.get_set,if_neg e,h2];exact k3,subB_trans k4 hsub,fun t ht hb=> ?_⟩
         · unfold knownA at k2 ⊢;rw [hni j e,h3];exact k2
         · rcases List.mem_cons.1 ht with rfl | ht
           · exact (k5 cur (List.mem_cons_self ..) k4).mono hx.grow
           · exact k5 t ht hb
 · obtain ⟨n1,n2,n3⟩:=h.non j (by omega)
   rcases two j with ⟨o,h1,h2⟩ | ⟨h1,h2,h3⟩
   · have:=(h.pnd j o h1).1;omega
   · exact ⟨by rw [hni j (by omega)];exact n1,by simp only [h3];exact n2,by rw [T.get_set,if_neg (by omega),h2];exact n3⟩
 · rcases List.mem_cons.1 ht with rfl | ht
   · exact hj
   · have:=h.mm t ht j hj
     simp only
     rw [some1 j this];exact this
 · obtain ⟨a1,a2⟩:=(hG.rest _).1 hm
   obtain ⟨b1,b2,b3,b4,b5,b6,b7,b8⟩:=h.pnd j o a1
   have hold:V1.get j=V.get j/\W1.get j=W.get j/\M1.get j=cur.M.get j:=hG.old j fun o' ho'=>a2
   exact ⟨by omega,b2,b3.step (by rw [T.get_set,if_neg (by omega),hV2,hold.1]) hkn,trivial,by rw [hni j (by omega)];exact b5,by simp only [hold.2.2];exact b6,by rw [T.get_set,if_neg (by omega),hold.2.1];exact b7,bitnew j b1 b8⟩
 · rcases two j with ⟨o,h1,h2⟩ | ⟨h1,h2,h3⟩
   · obtain ⟨b1,f2,a',b2,b3,b4,b5,b6,b7⟩:=hG.new j o h1 h2
     simp only at hf
     rw [hf] at b2;cases b2
     obtain ⟨c1,c2,c3,c4,c5,c6,c7,c8⟩:=h.pnd j o h1
     refine ⟨b3.step hkn1,by rw [hni j (by omega)];exact c5,Nat.lt_of_lt_of_le b7 hx1.snx,bitnew j c1 c8,fun t ht=> ?_⟩
     rcases List.mem_cons.1 ht with rfl | ht
     · exact .inl ⟨by simp only [bit_lor,h2,Bool.or_true],by simp only [hf];rfl⟩
     · refine .inr ⟨?_,Nat.le_trans (tocur t ht) b6⟩
       cases hM:t.M.get j with
       | none=>rfl
       | some x=>
         have:=h.mm t ht j (by rw [hM];rfl)
         rw [c6] at this;cases this
   · simp only at hf
     rw [h3] at hf
     obtain ⟨b1,b2,b3,b4,b5⟩:=h.inf j f hf
     have hji:j<i:=by
      rcases Nat.lt_or_ge j i with hlt | hge
      · exact hlt
      · rw [(h.non j hge).2.1] at hf;cases hf
     refine ⟨b1.step hkn,by rw [hni j (by omega)];exact b2,Nat.lt_of_lt_of_le b3 hx.snx,bitnew j hji b4,fun t ht=> ?_⟩
     rcases List.mem_cons.1 ht with rfl | ht
     · rcases b5 cur (List.mem_cons_self ..) with ⟨d1,d2⟩ | ⟨d1,d2⟩
       · exact .inl ⟨by simp only [bit_lor,d1,Bool.true_or],by simp only [h3];exact d2⟩
       · rw [d1] at hf;cases hf
     · exact b5 t ht
 · simp only at h1 h2
   rcases two j with ⟨o,p1,p2⟩ | ⟨p1,p2,p3⟩
   · rcases two j' with ⟨o',q1,q2⟩ | ⟨q1,q2,q3⟩
     · exact hG.inj j j' o o' f f' p1 p2 q1 q2 h1 h2 he
     · obtain ⟨b1,f2,a',b2,b3,b4,b5,b6,b7⟩:=hG.new j o p1 p2
       rw [h1] at b2;cases b2
       rw [q3] at h2
       have:=(h.inf j' f' h2).2.2.1
       omega
   · rw [p3] at h1
     rcases two j' with ⟨o',q1,q2⟩ | ⟨q1,q2,q3⟩
     · obtain ⟨b1,f2,a',b2,b3,b4,b5,b6,b7⟩:=hG.new j' o' q1 q2
       rw [h2] at b2;cases b2
       have:=(h.inf j f h1).2.2.1
       omega
     · rw [q3] at h2
       exact h.inj j j' f f' h1 h2 he
 · by_cases e:j=i
   · subst e
     left
     rw [bit_lor,bit_one];simp
   · rcases h.q j (by omega) with hb | hq | ⟨o,ho⟩ | hM
     · left;rw [bit_lor,hb];rfl
     · refine .inr (.inl (hq.step (fun _ h=>h) (fun x v' hx=> ?_) (fun x hx=> ?_) hx hsub (fun t ht=> ?_)))
       · rw [hni x (by rintro rfl;rw [(h.non _ (Nat.le_refl _)).1] at hx;cases hx)];exact hx
       · have hxi:x≠i:=by
          rintro rfl
          obtain ⟨n1,n2,_⟩:=h.non x (Nat.le_refl _)
          rw [n1,n2] at hx
          rcases hx with hx | hx<;>cases hx
         have key:V'.get x=none->M1.get x=cur.M.get x:=fun hn=>by
          rcases hx with hx | hx
          · rw [hn] at hx;cases hx
          · exact some1 x hx
         constructor
         · unfold knownA
           rw [hni x hxi]
           cases hVx:V'.get x with
           | some _=>rfl
           | none=>simp only [key hVx]
         · rw [hni x hxi]
           rcases hx with hx | hx
           · exact .inl hx
           · exact .inr (by simp only [some1 x hx];exact hx)
       · rcases List.mem_cons.1 ht with rfl | ht
         · exact .inr ⟨hx,rfl⟩
         · exact .inl ht
     · cases hb:bitB m j with
       | true=>
         obtain ⟨b1,f,a',b2,_⟩:=hG.new j o ho hb
         exact .inr (.inr (.inr (by simp only [b2];rfl)))
       | false=>exact .inr (.inr (.inl ⟨o,(hG.rest _).2 ⟨ho,hb⟩⟩))
     · exact .inr (.inr (.inr (by simp only [some1 j hM];exact hM)))
theorem PI.wait (h:PI C ops dm cls base baseE i V W qs pend V' hist cur) {o:Oper} (ho:ops[i]? =some o) {V1:T SV} (hV1:∀j,j≠i->V1.get j=V.get j) (hPN:PN C ops dm cls baseE V1 V' cur.M i o):
 PI C ops dm cls base baseE (i+1) V1 W qs (pend++[(i,o)]) V' hist cur:=by
 refine ⟨h.sims,h.base,h.pw,fun j hj=>by have:=h.lt j hj;omega,h.sub,fun j hj=> ?_,fun j hj=>h.non j (by omega),h.mm,fun j o' hm=> ?_, ?_,h.inf,h.inj,fun j hj=> ?_⟩
 · by_cases e:j=i
   · exact .inl ⟨o,by rw [e];simp⟩
   · rcases h.vals j (by omega) with ⟨o',ho'⟩ | hr
     · exact .inl ⟨o',List.mem_append_left _ ho'⟩
     · rw [hV1 j e];exact .inr hr
 · rcases List.mem_append.1 hm with hm | hm
   · obtain ⟨b1,b2,b3,b4⟩:=h.pnd j o' hm
     exact ⟨by omega,b2,b3.step (hV1 j (by omega)) .refl,b4⟩
   · simp only [List.mem_singleton] at hm
     cases hm
     obtain ⟨n1,n2,n3⟩:=h.non i (Nat.le_refl _)
     refine ⟨by omega,ho,hPN,trivial,n1,n2,n3, ?_⟩
     cases hb:bitB cur.p.done i with
     | false=>rfl
     | true=>have:=h.lt i hb;omega
 · rw [List.map_append,List.nodup_append]
   refine ⟨h.nodup,by simp,fun x hx y hy=> ?_⟩
   simp only [List.map_cons,List.map_nil,List.mem_singleton] at hy
   subst hy
   rintro rfl
   obtain ⟨⟨j,o'⟩,hm,e⟩:=List.mem_map.1 hx
   have:=(h.pnd j o' hm).1
   simp only at e
   omega
 · by_cases e:j=i
   · exact .inr (.inr (.inl ⟨o,by rw [e];simp⟩))
   · rcases h.q j (by omega) with hb | hq | ⟨o',ho'⟩ | hM
     · exact .inl hb
     · exact .inr (.inl hq)
     · exact .inr (.inr (.inl ⟨o',List.mem_append_left _ ho'⟩))
     · exact .inr (.inr (.inr hM))
theorem PI.quiet (h:PI C ops dm cls base baseE i V W qs pend V' hist cur) {o:Oper} {m:Nat} {a:SV} {p:PtS} {ps:List Prop} (ho:ops[i]? =some o) (hc:cls.get i=some m) (hmlt:∀x,bitB m x=true->x<i)
 (hp:firstPt (Nat.land m cur.p.done) ((cur::hist).map (·.p))=some p) (hq:quietW C ops (envS base ops dm cls i m V o) p.σ o=some (ps,a)) (hps:PS ps) (hsure:sureV a=true) (hn:needsOk m (Nat.land m cur.p.done) W i=true)
 (hst:stayOk p.σ.next cur.p.σ (fpOp C (envS base ops dm cls i m V o) o.op)=true) (hqb:quietB C o.op=true):
 ∃v,(∀rec:Rec,stepV C rec ops o (envA baseE ops dm cls i m V' cur.M o) cur.B=some (v,cur.B))/\
  PI C ops dm cls base baseE (i+1) (V.set i a) (W.set i (Nat.land m cur.p.done)) (⟨i,m,p.σ.next,fpOp C (envS base ops dm cls i m V o) o.op⟩::qs) pend (V'.set i v) hist cur:=by
 obtain ⟨l1,l2,e1,hd,hold⟩:=firstPt_spec hp
 obtain ⟨L1,t0,L2,e2,f1,f2,f3⟩:∃L1 t0 L2,cur::hist=L1++t0::L2/\L1.map (·.p)=l1/\t0.p=p/\L2.map (·.p)=l2:=by
  obtain ⟨L1,R,k1,k2,k3⟩:=List.map_eq_append_iff.1 e1
  obtain ⟨t0,L2,k4,k5,k6⟩:=List.map_eq_cons_iff.1 k3
  exact ⟨L1,t0,L2,by rw [k1,k4],k2,k5,k6⟩
 subst f2
 have ht0:t0∈cur::hist:=by rw [e2];simp
 have hs0:=h.sims t0 ht0
 have hsubD:subB (Nat.land m cur.p.done) cur.p.done=true:=by
  rw [subB_iff];intro j hj;rw [bit_land,Bool.and_eq_true] at hj;exact hj.2
 have hx:t0.xt cur:=by
  have hpw:=h.pw
  rcases L1 with _ | ⟨c,L1⟩
  · simp only [List.nil_append,List.cons.injEq] at e2
    rw [<-e2.1];exact cur.xt_refl
  · simp only [List.cons_append,List.cons.injEq] at e2
    exact (List.pairwise_cons.1 hpw).1 t0 (by rw [e2.2];simp)
 have later:∀t,t∈cur::hist->subB (Nat.land m cur.p.done) t.p.done=true->t0.xt t:=by
  intro t ht hb
  rw [e2] at ht
  rcases List.mem_append.1 ht with ht | ht
  · have hpw:=h.pw
    rw [e2] at hpw
    exact (List.pairwise_append.1 hpw).2.2 t ht t0 (List.mem_cons_self ..)
  · rcases List.mem_cons.1 ht with rfl | ht
    · exact t.xt_refl
    · have:=hold t.p (by rw [<-f3];exact List.mem_map_of_mem ht)
      rw [hb] at this;cases this
 have known:∀j,bitB m j=true->∃a v w,V.get j=some a/\knownA V' cur.M j=some v/\W.get j=some w/\subB w (Nat.land m cur.p.done)=true/\∀t,t∈cur::hist->subB w t.p.done=true->RV t.B.heap t.g t.p.σ.next a v:=by
  intro j hj
  obtain ⟨w',k6,k7⟩:=needsOk_spec hn j (hmlt j hj) hj
  rcases h.vals j (hmlt j hj) with ⟨o',ho'⟩ | ⟨a2,v2,w,k1,k2,k3,k4,k5⟩
  · obtain ⟨_,_,_,_,_,_,h7,_⟩:=h.pnd j o' ho'
    rw [h7] at k6;cases k6
  · rw [k3] at k6;cases k6
    exact ⟨a2,v2,_,k1,k2,k3,k7,k5⟩
 have henv:RE t0.B.heap t0.g t0.p.σ.next (envS base ops dm cls i m V o) (envA baseE ops dm cls i m V' cur.M o):=by
  refine env_rel (h.base t0 ht0) (fun j hj a' ha'=> ?_) o
  obtain ⟨a2,v2,w,k1,k2,k3,k4,k5⟩:=known j hj
  rw [k1] at ha';cases ha'
  exact ⟨v2,k2,k5 t0 ht0 (subB_trans k4 hd)⟩
 obtain ⟨v,hv,hstep⟩:=quiet_ok hs0 henv hq hps
 have hVi:=h.non i (Nat.le_refl _)
 have hni:∀j,j≠i->(V'.set i v).get j=V'.get j:=fun j hj=>by rw [T.get_set,if_neg hj]
 have hkn:Kn V' cur.M (V'.set i v) cur.M:=by
  intro x hx
  have hxi:x≠i:=by
   rintro rfl
   rw [hVi.1,hVi.2.1] at hx
   rcases hx with hx | hx<;>cases hx
  exact ⟨by unfold knownA;rw [hni x hxi],by rw [hni x hxi];exact hx⟩
 refine ⟨v,fun rec=>hstep rec cur.B (stay_of hs0 hx hst),⟨h.sims,h.base,h.pw,fun j hj=>by have:=h.lt j hj;omega,h.sub,fun j hj=> ?_,fun j hj=> ?_,h.mm,fun j o' hm=> ?_,h.nodup,fun j f hf=> ?_,h.inj,fun j hj=> ?_⟩⟩
 · by_cases e:j=i
   · subst e
     exact .inr ⟨a,v,_,by rw [T.get_set,if_pos rfl],knownA_of (by rw [T.get_set,if_pos rfl]),by rw [T.get_set,if_pos rfl],hsubD,fun t ht hb=>hv.mono (later t ht hb).grow⟩
   · rcases h.vals j (by omega) with hl | ⟨a',v',w,h1,h2,h3,h4,h5⟩
     · exact .inl hl
     · refine .inr ⟨a',v',w,by rw [T.get_set,if_neg e];exact h1, ?_,by rw [T.get_set,if_neg e];exact h3,h4,h5⟩
       unfold knownA at h2 ⊢;rw [hni j e];exact h2
 · obtain ⟨n1,n2,n3⟩:=h.non j (by omega)
   exact ⟨by rw [hni j (by omega)];exact n1,n2,by rw [T.get_set,if_neg (by omega)];exact n3⟩
 · obtain ⟨b1,b2,b3,b4,b5,b6,b7,b8⟩:=h.pnd j o' hm
   exact ⟨by omega,b2,b3.step (by rw [T.get_set,if_neg (by omega)]) hkn,b4,by rw [hni j (by omega)];exact b5,b6,by rw [T.get_set,if_neg (by omega)];exact b7,b8⟩
 · obtain ⟨b1,b2,b3⟩:=h.inf j f hf
   refine ⟨b1.step hkn, ?_,b3⟩
   rw [hni j (by rintro rfl;rw [hVi.2.1] at hf;cases hf)];exact b2
 · by_cases e:j=i
   · subst e
     right;left
     refine ⟨o,m,v,_,t0,cur.p.done,ho,hc,by rw [T.get_set,if_pos rfl],List.mem_cons_self ..,rfl,rfl,hqb,sure_same hv hsure,hs0,hx,rfl,subB_refl _,fun x hx=>⟨hmlt x hx, ?_⟩,fun V2 M2 hV2 rec s' hst'=> ?_,later⟩
     · obtain ⟨a2,v2,w,k1,k2,_⟩:=known x hx
       rw [hni x (by have:=hmlt x hx;omega)]
       exact knownA_some k2
     · rw [env_congr (V:=V') (M:=cur.M) (fun x hx=>by
        rw [hV2 x hx]
        unfold knownA
        rw [hni x (by have:=hmlt x hx;omega)])]
       exact hstep rec s' hst'
   · rcases h.q j (by omega) with hb | hq | hr
     · exact .inl hb
     · refine .inr (.inl (hq.step (fun _ h=>List.mem_cons_of_mem _ h) (fun x v' hx=> ?_) (fun x hx=> ?_) cur.xt_refl (subB_refl _) (fun t ht=> .inl ht)))
       · rw [hni x (by rintro rfl;rw [hVi.1] at hx;cases hx)];exact hx
       · have hxi:x≠i:=by
          rintro rfl
          rw [hVi.1,hVi.2.1] at hx
          rcases hx with hx | hx<;>cases hx
         unfold knownA
         rw [hni x hxi]
         exact ⟨rfl,hx⟩
     · exact .inr (.inr hr)
theorem quOk_mem {H:Nat} {p:PtS}:∀{qs:List QuS} {q:QuS},quOk H p qs=true->q∈qs->subB (Nat.land q.m H) p.done=true->bitB p.clos q.i=false->stayOk q.n p.σ q.fp=true
 | q0::r,q,h,hq,h1,h2=>by
   simp only [quOk,subF_eq,landF_eq,bitF_eq,Bool.and_eq_true] at h
   rcases List.mem_cons.1 hq with rfl | hq
   · have h3:=h.1
     rw [h1,h2] at h3
     exact h3
   · exact quOk_mem h.2 hq h1 h2
theorem qusOk_mem {H:Nat} {qs:List QuS}:∀{l:List PtS} {p:PtS},qusOk H qs l=true->p∈l->quOk H p qs=true
 | p0::r,p,h,hp=>by
   simp only [qusOk,Bool.and_eq_true] at h
   rcases List.mem_cons.1 hp with rfl | hp
   · exact h.1
   · exact qusOk_mem h.2 hp
theorem quietAll_of {rec:Rec} {gg:Rg} {V:T Value} {I:T Info} {H nx:Nat} {p:Pt}:∀{l:List Oper} {i:Nat},Nat.ble p.B.next nx=true->(∀x o,l[x]? =some o->(∀f,I.get (i+x)=some f->(p.M.get (i+x)).isSome=true\/p.B.next<=f.id)/\
 ((bitB H (i+x)=true/\I.get (i+x)=none)\/(bitB H (i+x)=false/\∃m,gg.cls.get (i+x)=some m/\quietAt C rec gg V I H nx (i+x) m o p=true)))->
 quietAll C rec gg V I H nx p l i=true
 | [],i,h0,h=>h0
 | o::r,i,h0,h=>by
   simp only [quietAll,Bool.and_eq_true]
   refine ⟨⟨?_, ?_⟩,quietAll_of h0 fun x o' hx=> ?_⟩
   · have h1:=(h 0 o rfl).1
     rw [Nat.add_zero] at h1
     cases hI:I.get i with
     | none=>rfl
     | some f=>
       rcases h1 f hI with h2 | h2
       · simp only [h2,Bool.true_or]
       · simp only [is_ble h2,Bool.or_true]
   · rcases (h 0 o rfl).2 with ⟨h1,h2⟩ | ⟨h1,m,h2,h3⟩
     · rw [Nat.add_zero] at h1 h2;rw [h1,h2];rfl
     · rw [Nat.add_zero] at h1 h2 h3
       rw [h1,h2]
       exact h3
   · have:=h (x+1) o' (by simpa using hx)
     rw [show i+(x+1)=i+1+x by omega] at this
     exact this
theorem infos_of {V:T Value} {I:T Info} {nx:Nat}:∀{l:List Oper} {i:Nat} {seen:List Nat},(∀x f,x<l.length->I.get (i+x)=some f->V.get (i+x)=none/\f.id<nx/\f.id ∉ seen/\∀x' f',x'<l.length->I.get (i+x')=some f'->f.id=f'.id->x=x')->
 infosA V I nx l i seen=true
 | [],_,_,_=>rfl
 | o::r,i,seen,h=>by
   have tail:∀{seen':List Nat},(∀x f,x<r.length->I.get (i+1+x)=some f->f.id ∉ seen')->infosA V I nx r (i+1) seen'=true:=fun hs=>infos_of fun x f hx hI=>by
    have hI':I.get (i+(x+1))=some f:=by rw [<-hI];congr 1;omega
    obtain ⟨a1,a2,a3,a4⟩:=h (x+1) f (by simpa using hx) hI'
    refine ⟨by rw [<-a1];congr 1;omega,a2,hs x f hx hI,fun x' f' hx' hI2 e=> ?_⟩
    have:=a4 (x'+1) f' (by simpa using hx') (by rw [<-hI2];congr 1;omega) e
    omega
   simp only [infosA]
   cases hI:I.get i with
   | none=>
     simp only
     refine tail fun x f hx hI2=> ?_
     have hI':I.get (i+(x+1))=some f:=by rw [<-hI2];congr 1;omega
     exact (h (x+1) f (by simpa using hx) hI').2.2.1
   | some f=>
     obtain ⟨a1,a2,a3,a4⟩:=h 0 f (by simp) hI
     simp only [Bool.and_eq_true,Option.isNone_iff_eq_none,Bool.not_eq_true']
     refine ⟨⟨⟨a1,by simpa [Nat.blt_eq] using a2⟩, ?_⟩,tail fun x f2 hx hI2=> ?_⟩
     · cases hm:memN f.id seen with
       | false=>rfl
       | true=>rw [memN_eq] at hm;exact absurd (by simpa using hm) a3
     · have hI':I.get (i+(x+1))=some f2:=by rw [<-hI2];congr 1;omega
       obtain ⟨b1,b2,b3,b4⟩:=h (x+1) f2 (by simpa using hx) hI'
       intro hm
       rcases List.mem_cons.1 hm with e | hm
       · have:=a4 (x+1) f2 (by simpa using hx) hI' e.symm
         omega
       · exact b3 hm
theorem PI.all (h:PI C ops dm cls base baseE ops.length V W qs pend V' hist cur) (hq:qusOk cur.p.done qs ((cur::hist).map (·.p))=true)
 {w:Nat} {V1:T SV} {W1:T Nat} {σ1:SS} {s1:St} {g1:Gh} {M1:T Info} {pend1:List (Nat×Oper)} (hG:MG C ops dm cls baseE V' (fun _=>true) w pend V W cur.p.σ cur.B cur.g cur.A cur.M V1 W1 σ1 s1 g1 M1 pend1):
 infosA V' M1 s1.next ops 0 []=true/\(∀(rec:Rec) (t:HT),t∈cur::hist->quietAll C rec ⟨ops,dm,cls,baseE⟩ V' M1 cur.p.done s1.next t.pt ops 0=true)/\
 (∀j,j<ops.length->∃a v,V1.get j=some a/\knownA V' M1 j=some v/\RV s1.heap g1 σ1.next a v):=by
 have two:∀j,(∃o,(j,o)∈pend)\/(V1.get j=V.get j/\M1.get j=cur.M.get j):=by
  intro j
  by_cases e:∃o,(j,o)∈pend
  · exact .inl e
  · have:=hG.old j fun o ho=>absurd ⟨o,ho⟩ e
    exact .inr ⟨this.1,this.2.2⟩
 have tocur:∀t,t∈cur::hist->t.B.next<=cur.B.next:=by
  intro t ht
  rcases List.mem_cons.1 ht with rfl | ht
  · exact Nat.le_refl _
  · have hh:Xt t.p.σ t.B t.g t.A cur.p.σ cur.B cur.g cur.A:=(List.pairwise_cons.1 h.pw).1 t ht
    exact hh.snx
 have some1:∀j,(cur.M.get j).isSome=true->M1.get j=cur.M.get j:=by
  intro j hj
  rcases two j with ⟨o,h1⟩ | h1
  · obtain ⟨_,_,_,_,_,h6,_⟩:=h.pnd j o h1
    rw [h6] at hj;cases hj
  · exact h1.2
 have hnone:∀t,t∈cur::hist->∀j,cur.M.get j=none->t.M.get j=none:=by
  intro t ht j hj
  cases hM:t.M.get j with
  | none=>rfl
  | some x=>
    have:=h.mm t ht j (by rw [hM];rfl)
    rw [hj] at this;cases this
 have hkn:Kn V' cur.M V' M1:=by
  intro x hx
  have key:V'.get x=none->M1.get x=cur.M.get x:=fun hn=>by
   rcases hx with hx | hx
   · rw [hn] at hx;cases hx
   · exact some1 x hx
  constructor
  · unfold knownA
    cases hVx:V'.get x with
    | some _=>rfl
    | none=>simp only [key hVx]
  · rcases hx with hx | hx
    · exact .inl hx
    · exact .inr (by rw [some1 x hx];exact hx)
 have infs:∀j f,M1.get j=some f->FI C ops dm cls baseE V' M1 j f/\V'.get j=none/\f.id<s1.next/\bitB cur.p.done j=false/\∀t,t∈cur::hist->(bitB t.p.clos j=true/\(t.M.get j).isSome=true)\/(t.M.get j=none/\t.B.next<=f.id):=by
  intro j f hf
  rcases two j with ⟨o,h1⟩ | ⟨h1,h2⟩
  · obtain ⟨b1,f2,a',b2,b3,b4,b5,b6,b7⟩:=hG.new j o h1 rfl
    rw [hf] at b2;cases b2
    obtain ⟨c1,c2,c3,c4,c5,c6,c7,c8⟩:=h.pnd j o h1
    exact ⟨b3,c5,b7,c8,fun t ht=> .inr ⟨hnone t ht j c6,Nat.le_trans (tocur t ht) b6⟩⟩
  · rw [h2] at hf
    obtain ⟨b1,b2,b3,b4,b5⟩:=h.inf j f hf
    exact ⟨b1.step hkn,b2,Nat.lt_of_lt_of_le b3 hG.xt.snx,b4,b5⟩
 have inj:∀j j' f f',M1.get j=some f->M1.get j'=some f'->f.id=f'.id->j=j':=by
  intro j j' f f' h1 h2 he
  rcases two j with ⟨o,p1⟩ | ⟨p1,p2⟩
  · rcases two j' with ⟨o',q1⟩ | ⟨q1,q2⟩
    · exact hG.inj j j' o o' f f' p1 rfl q1 rfl h1 h2 he
    · obtain ⟨b1,f2,a',b2,b3,b4,b5,b6,b7⟩:=hG.new j o p1 rfl
      rw [h1] at b2;cases b2
      rw [q2] at h2
      have:=(h.inf j' f' h2).2.2.1
      omega
  · rw [p2] at h1
    rcases two j' with ⟨o',q1⟩ | ⟨q1,q2⟩
    · obtain ⟨b1,f2,a',b2,b3,b4,b5,b6,b7⟩:=hG.new j' o' q1 rfl
      rw [h2] at b2;cases b2
      have:=(h.inf j f h1).2.2.1
      omega
    · rw [q2] at h2
      exact h.inj j j' f f' h1 h2 he
 refine ⟨infos_of fun x f hx hI=> ?_,fun rec t ht=> ?_,fun j hj=> ?_⟩
 · rw [Nat.zero_add] at hI ⊢
   obtain ⟨b1,b2,b3,b4,b5⟩:=infs x f hI
   exact ⟨b2,b3,List.not_mem_nil,fun x' f' hx' hI' e=>inj x x' f f' hI (by rw [Nat.zero_add] at hI';exact hI') e⟩
 · have hxt:t.xt cur:=by
    rcases List.mem_cons.1 ht with rfl | ht
    · exact t.xt_refl
    · exact (List.pairwise_cons.1 h.pw).1 t ht
   refine quietAll_of (is_ble (Nat.le_trans (tocur t ht) hG.xt.snx)) fun x o hx=> ?_
   rw [Nat.zero_add]
   have hxl:x<ops.length:=(List.getElem?_eq_some_iff.1 hx).1
   refine ⟨fun f hf=> ?_, ?_⟩
   · rcases (infs x f hf).2.2.2.2 t ht with ⟨_,h2⟩ | ⟨_,h2⟩
     · exact .inl h2
     · exact .inr h2
   cases hI:M1.get x with
   | some f=>
     obtain ⟨⟨o',m,vf,b1,b2,⟨n1,n2,n3,n4,n5,n6⟩,b6⟩,c2,c3,c4,c5⟩:=infs x f hI
     rw [hx] at b1;cases b1
     refine .inr ⟨c4,m,b2, ?_⟩
     unfold quietAt
     cases hcl:bitB t.pt.clos x with
     | true=>simp only [Bool.not_true,Bool.and_false,cond_false]
     | false=>
       have hMn:t.pt.M.get x=none:=by
        rcases c5 t ht with ⟨d1,_⟩ | ⟨d1,_⟩
        · have hcl':bitB t.p.clos x=false:=hcl
          rw [d1] at hcl';cases hcl'
        · exact d1
       cases hz:subB (Nat.land m cur.p.done) t.pt.done with
       | false=>rfl
       | true=>
       have hget:((⟨.nil,f.id⟩:St).new f.b).heap.get f.id=some f.b:=by simp only [St.new,T.get_set,if_pos]
       have e3:((⟨.nil,f.id⟩:St).new f.b).next=f.id+1:=rfl
       have hst:stepV C rec (Rg.ops ⟨ops,dm,cls,baseE⟩) o (Rg.env ⟨ops,dm,cls,baseE⟩ x m V' M1 o) ⟨.nil,f.id⟩=some (vf f.id,(⟨.nil,f.id⟩:St).new f.b):=n6 V' M1 (fun _ _=>rfl) rec ⟨.nil,f.id⟩
       simp only [Bool.not_false,Bool.and_self,cond_true,n1,Bool.true_and,hI,hMn,hst,hget,b6,e3,n3,n4,n5,Nat.beq_refl,Option.isNone_none,Bool.and_self]
   | none=>
     rcases h.q x hxl with hb | ⟨o',m,v,q,t0,D,k1,k2,k3,k4,k5,k6,k7,k8,k9,k10,k11,k12,klt,k13,k14⟩ | ⟨o',ho'⟩ | hM
     · exact .inl ⟨hb,rfl⟩
     · cases hb:bitB cur.p.done x with
       | true=>exact .inl ⟨rfl,rfl⟩
       | false=>
       rw [hx] at k1;cases k1
       refine .inr ⟨rfl,m,k2, ?_⟩
       unfold quietAt
       cases hel:(subB (Nat.land m cur.p.done) t.pt.done&& !bitB t.pt.clos x) with
       | false=>rfl
       | true=>
         simp only [Bool.and_eq_true,Bool.not_eq_true'] at hel
         obtain ⟨e1,e2⟩:=hel
         have hst:=quOk_mem (qusOk_mem hq (List.mem_map_of_mem ht)) k4 (by rw [k6];exact e1) (by rw [k5];exact e2)
         have hD:subB (Nat.land m D) (Nat.land m cur.p.done)=true:=by
          rw [subB_iff] at k12 ⊢
          intro j hj
          rw [bit_land,Bool.and_eq_true] at hj ⊢
          exact ⟨hj.1,k12 j hj.2⟩
         have hx0:=k14 t ht (subB_trans hD e1)
         rw [k11] at hst
         have hstay:=stay_of k9 hx0 hst
         have hstep:=k13 V' M1 (fun y hy=>by
          have:=(klt y hy).2
          unfold knownA
          cases hVy:V'.get y with
          | some _=>rfl
          | none=>
            rw [hVy] at this
            rcases this with this | this
            · cases this
            · simp only [some1 y this]) rec ⟨t.B.heap,s1.next⟩ hstay
         have hstep':stepV C rec (Rg.ops ⟨ops,dm,cls,baseE⟩) o (Rg.env ⟨ops,dm,cls,baseE⟩ x m V' M1 o) ⟨t.pt.B.heap,s1.next⟩=some (v,⟨t.B.heap,s1.next⟩):=hstep
         simp only [cond_true,hI,k3,hstep',k7,k8,Nat.beq_refl,Bool.and_self]
     · obtain ⟨b1,f2,a',b2,_⟩:=hG.new x o' ho' rfl
       rw [hI] at b2;cases b2
     · rw [<-some1 x hM,hI] at hM;cases hM
 · rcases two j with ⟨o,p1⟩ | ⟨p1,p2⟩
   · obtain ⟨b1,f2,a',b2,b3,b4,b5,b6,b7⟩:=hG.new j o p1 rfl
     obtain ⟨c1,c2,c3,c4,c5,c6,c7,c8⟩:=h.pnd j o p1
     exact ⟨a',f2.v,b4,knownA_mrg c5 b2,b5⟩
   · rcases h.vals j hj with ⟨o,ho⟩ | ⟨a,v,w',k1,k2,k3,k4,k5⟩
     · obtain ⟨b1,f2,a',b2,b3,b4,b5,b6,b7⟩:=hG.new j o ho rfl
       obtain ⟨c1,c2,c3,c4,c5,c6,c7,c8⟩:=h.pnd j o ho
       exact ⟨a',f2.v,b4,knownA_mrg c5 b2,b5⟩
     · refine ⟨a,v,by rw [p1];exact k1, ?_,(k5 cur (List.mem_cons_self ..) k4).mono hG.xt.grow⟩
       unfold knownA at k2 ⊢;rw [p2];exact k2
end
end
end Go.Eng
namespace Go.Eng
section
variable {C:Cx} {σ:SS} {s:St} {g:Gh} {A:Nat->Prop}
variable {ops:List Oper} {dm cls:T Nat} {base:SE} {baseE:E}
structure PEnd (C:Cx) (ops:List Oper) (dm cls:T Nat) (base:SE) (baseE:E) (k:SE->SS->Prop) (r:List Oper) (i:Nat) (V':T Value) (pend:List (Nat×Oper)) (cur:HT) (hist:List HT) (M:Nat)
 (V2':T Value) (curF:HT) (histF:List HT) (I:T Info) (σF:SS) (sF:St) (gF:Gh) (e2:SE):Prop where
 run:∀n,M<=n->passA C (recOf C n) ⟨ops,dm,cls,baseE⟩ r i V' pend cur.pt cur.B (hist.map HT.pt)=some (V2',(curF::histF).map HT.pt,I,curF.p.done,sF.next,.fin sF)
 infos:infosA V2' I sF.next ops 0 []=true
 quiet:∀(rec:Rec) (t:HT),t∈curF::histF->quietAll C rec ⟨ops,dm,cls,baseE⟩ V2' I curF.p.done sF.next t.pt ops 0=true
 puts:∃V1,(∀j,j<ops.length->∃a v,V1.get j=some a/\knownA V2' I j=some v/\RV sF.heap gF σF.next a v)/\putsS V1 ops 0 base=some e2
 base:RE sF.heap gF σF.next base baseE
 sim:Sim C σF sF gF curF.A
 xt:Xt cur.p.σ cur.B cur.g cur.A σF sF gF curF.A
 k:k e2 σF
theorem PEnd.step {k:SE->SS->Prop} {o:Oper} {r:List Oper} {i:Nat} {V' V1':T Value} {pend pend1:List (Nat×Oper)} {cur cur1:HT} {hist hist1:List HT} {M M1:Nat} {V2':T Value} {curF:HT} {histF:List HT} {I:T Info} {σF:SS} {sF:St} {gF:Gh} {e2:SE}
 (h:PEnd C ops dm cls base baseE k r (i+1) V1' pend1 cur1 hist1 M V2' curF histF I σF sF gF e2)
 (hr:∀n,M1<=n->passA C (recOf C n) ⟨ops,dm,cls,baseE⟩ (o::r) i V' pend cur.pt cur.B (hist.map HT.pt)=passA C (recOf C n) ⟨ops,dm,cls,baseE⟩ r (i+1) V1' pend1 cur1.pt cur1.B (hist1.map HT.pt)) (hs:cur.sim C) (hx:cur.xt cur1):
 PEnd C ops dm cls base baseE k (o::r) i V' pend cur hist (max M M1) V2' curF histF I σF sF gF e2:=
 ⟨fun n hn=>(hr n (by omega)).trans (h.run n (by omega)),h.infos,h.quiet,h.puts,h.base,h.sim,Xt.trans hs hx h.xt,h.k⟩
theorem pass_ok {rw:SRec} (hrec:RecWOk C rw) (hm:Masks ops cls) {k:SE->SS->Prop}:∀(r:List Oper) (i:Nat) {V:T SV} {W:T Nat} {qs:List QuS} {pend:List (Nat×Oper)} {V':T Value} {cur:HT} {hist:List HT},
 passW C rw ops dm cls base k r i V W qs pend cur.p.done cur.p.clos cur.p.σ (hist.map (·.p))->ops.drop i=r->i<=ops.length->PI C ops dm cls base baseE i V W qs pend V' hist cur->
 ∃M V2' curF histF I σF sF gF e2,PEnd C ops dm cls base baseE k r i V' pend cur hist M V2' curF histF I σF sF gF e2
 | [],i,V,W,qs,pend,V',cur,hist,h,hd,hi,hp=>by
   have hlen:i=ops.length:=by
    have:=congrArg List.length hd
    simp only [List.length_drop,List.length_nil] at this
    omega
   subst hlen
   simp only [passW] at h
   split at h
   · exact h.elim
   rename_i V1 W1 σ1 pend1 hmg
   have hcs:=hp.sims cur (List.mem_cons_self ..)
   obtain ⟨M1,s1,g1,hA,hG⟩:=merge_ok (ops:=ops) (dm:=dm) (cls:=cls) (baseE:=baseE) (V':=V') hcs hmg (fun j o hj=>by
    obtain ⟨_,b2,b3,_,b5,b6,_⟩:=hp.pnd j o hj;exact ⟨b2,b3,b5,b6⟩) hp.nodup
   cases hq:qusOk cur.p.done qs (⟨cur.p.σ,cur.p.done,cur.p.clos⟩::hist.map (·.p)) with
   | false=>rw [hq] at h;exact h.elim
   | true=>
     rw [hq] at h
     simp only [cond_true] at h
     split at h
     · rename_i e he
       obtain ⟨a1,a2,a3⟩:=hp.all hq hG
       refine ⟨0,V',cur,hist,M1,σ1,s1,g1,e,fun n _=> ?_,a1,a2,⟨V1,a3,he⟩,(hp.base cur (List.mem_cons_self ..)).mono hG.xt.grow,hG.sim,hG.xt,h⟩
       have hA':=hA (recOf C n)
       simp only [passA,HT.pt,List.map_cons,hA']
     · exact h.elim
 | o::r,i,V,W,qs,pend,V',cur,hist,h,hd,hi,hp=>by
   have hil:i<ops.length:=by
    have:=congrArg List.length hd
    simp only [List.length_drop,List.length_cons] at this
    omega
   have ho:ops[i]? =some o:=by
    have:=congrArg List.head? hd
    rw [List.head?_drop] at this
    exact this
   have hd':ops.drop (i+1)=r:=by
    have:=congrArg List.tail hd
    rw [List.tail_drop] at this
    exact this
   have hcs:=hp.sims cur (List.mem_cons_self ..)
   simp only [passW] at h
   split at h
   · exact h.elim
   · rename_i m hc
     have hmlt:=mask_lt hm i m hil hc
     have hVn:=(hp.non i (Nat.le_refl _)).1
     cases hh:heavyB C cls cur.p.done i m o r with
     | true=>
       rw [hh] at h
       simp only [cond_true] at h
       cases hsb:subB cur.p.done m with
       | false=>rw [hsb] at h;exact h.elim
       | true=>
       rw [hsb] at h
       simp only [cond_true] at h
       split at h
       · exact h.elim
       rename_i V0 W1 σ1 pend1 hmg
       obtain ⟨M1,s1,g1,hA,hG⟩:=merge_ok (ops:=ops) (dm:=dm) (cls:=cls) (baseE:=baseE) (V':=V') hcs hmg (fun j o hj=>by
        obtain ⟨_,b2,b3,_,b5,b6,_⟩:=hp.pnd j o hj;exact ⟨b2,b3,b5,b6⟩) hp.nodup
       obtain ⟨V1,hV1,h⟩:∃V1:T SV,(∀j,V1.get j=V0.get j)/\(match guardS ops (envS base ops dm cls i m V1 o) o with
        | none=>False
        | some none=>heavyW C rw (envS base ops dm cls i m V1 o) o σ1 fun a σ'=>
           passW C rw ops dm cls base k r (i+1) (V1.set i a) (W1.set i (Nat.shiftLeft 1 i)) qs pend1 (Nat.lor cur.p.done (Nat.shiftLeft 1 i)) (Nat.lor cur.p.clos m) σ' (⟨cur.p.σ,cur.p.done,cur.p.clos⟩::hist.map (·.p))
        | some (some (d,g,vt,_))=>match pureF rw o with
          | some (f,P)=>∃x:P.X,(g=true->pureW C f P x {(envS base ops dm cls i m V1 o) with tmps:=(envS base ops dm cls i m V1 o).tmps.set d vt} o σ1)/\
            passW C rw ops dm cls base k r (i+1) (V1.set i (.may g (P.val x))) (W1.set i (Nat.shiftLeft 1 i)) qs pend1 (Nat.lor cur.p.done (Nat.shiftLeft 1 i)) (Nat.lor cur.p.clos m) σ1 (⟨cur.p.σ,cur.p.done,cur.p.clos⟩::hist.map (·.p))
          | none=>ask g (heavyW C rw {(envS base ops dm cls i m V1 o) with tmps:=(envS base ops dm cls i m V1 o).tmps.set d vt} o σ1 fun a σ'=>
            passW C rw ops dm cls base k r (i+1) (V1.set i a) (W1.set i (Nat.shiftLeft 1 i)) qs pend1 (Nat.lor cur.p.done (Nat.shiftLeft 1 i)) (Nat.lor cur.p.clos m) σ' (⟨cur.p.σ,cur.p.done,cur.p.clos⟩::hist.map (·.p)))
            (passW C rw ops dm cls base k r (i+1) (V1.set i .undef) (W1.set i (Nat.shiftLeft 1 i)) qs pend1 (Nat.lor cur.p.done (Nat.shiftLeft 1 i)) (Nat.lor cur.p.clos m) σ1 (⟨cur.p.σ,cur.p.done,cur.p.clos⟩::hist.map (·.p)))):=by
        have known:∀{j:Nat} {b:Bool},splitS V0 o=some (j,b)->∀x,(V0.set j (.bool b)).get x=V0.get x:=by
         intro j b hsp x
         unfold splitS at hsp
         split at hsp
         · split at hsp
           · rename_i hj
             cases hsp
             rw [T.get_set]
             split
             · rename_i e;rw [e,hj]
             · rfl
           · cases hsp
         · cases hsp
        split at h
        · rename_i j b hsp
          replace hsp:splitS V0 o=some (j,b):=by
           cases hq:(pureF rw o).isSome with
           | true=>rw [hq] at hsp;cases hsp
           | false=>rw [hq] at hsp;exact hsp
          rw [ask_iff] at h
          cases b with
          | true=>exact ⟨_,known hsp,h.1 rfl⟩
          | false=>exact ⟨_,known hsp,h.2 rfl⟩
        · exact ⟨V0,fun _=>rfl,h⟩
       have known:∀j,bitB m j=true->∃a v,V0.get j=some a/\knownA V' M1 j=some v/\RV s1.heap g1 σ1.next a v:=by
        intro j hj
        by_cases e:∃o,(j,o)∈pend
        · obtain ⟨o',ho'⟩:=e
          obtain ⟨b1,f2,a',b2,b3,b4,b5,b6,b7⟩:=hG.new j o' ho' hj
          obtain ⟨c1,c2,c3,c4,c5,c6,c7,c8⟩:=hp.pnd j o' ho'
          exact ⟨a',f2.v,b4,knownA_mrg c5 b2,b5⟩
        · have hold:=hG.old j fun o ho=>absurd ⟨o,ho⟩ e
          rcases hp.vals j (hmlt j hj) with ⟨o',ho'⟩ | ⟨a2,v2,w,k1,k2,k3,k4,k5⟩
          · exact absurd ⟨o',ho'⟩ e
          · refine ⟨a2,v2,by rw [hold.1];exact k1, ?_,(k5 cur (List.mem_cons_self ..) k4).mono hG.xt.grow⟩
            unfold knownA at k2 ⊢;rw [hold.2.2];exact k2
       have henv:RE s1.heap g1 σ1.next (envS base ops dm cls i m V1 o) (envA baseE ops dm cls i m V' M1 o):=by
        refine env_rel ((hp.base cur (List.mem_cons_self ..)).mono hG.xt.grow) (fun j hj a' ha'=> ?_) o
        obtain ⟨a2,v2,k1,k2,k3⟩:=known j hj
        rw [hV1,k1] at ha';cases ha'
        exact ⟨v2,k2,k3⟩
       have hknown:knownAllA V' M1 m ops.length=true:=by
        have:∀n,knownAllA V' M1 m n=true:=by
         intro n
         induction n with
         | zero=>rfl
         | succ n ih=>
           simp only [knownAllA,ih,Bool.and_true,Bool.or_eq_true,Bool.not_eq_true']
           cases hb:bitB m n with
           | false=>exact .inl rfl
           | true=>
             obtain ⟨a2,v2,k1,k2,k3⟩:=known n hb
             exact .inr (knownA_some k2)
        exact this _
       obtain ⟨hg1,hg2⟩:=guard_rel henv (ops:=ops) (o:=o)
       have mstep:∀{v s2 N1},(∀n,N1<=n->stepV C (recOf C n) ops o (envA baseE ops dm cls i m V' M1 o) s1=some (v,s2))->∀{σ2 g2 A2},∀n,N1<=n->
        passA C (recOf C n) ⟨ops,dm,cls,baseE⟩ (o::r) i V' pend cur.pt cur.B (hist.map HT.pt)=
        passA C (recOf C n) ⟨ops,dm,cls,baseE⟩ r (i+1) (V'.set i v) pend1 (HT.pt ⟨⟨σ2,Nat.lor cur.p.done (Nat.shiftLeft 1 i),Nat.lor cur.p.clos m⟩,s2,g2,A2,M1⟩) s2 ((cur::hist).map HT.pt):=by
        intro v s2 N1 hst σ2 g2 A2 n hn
        have h1:=hst n hn
        have h2:stepV C (recOf C n) (Rg.ops ⟨ops,dm,cls,baseE⟩) o (Rg.env ⟨ops,dm,cls,baseE⟩ i m V' M1 o) s1=some (v,s2):=h1
        have hk':knownAllA V' M1 m (Rg.ops ⟨ops,dm,cls,baseE⟩).length=true:=hknown
        have hA':=hA (recOf C n)
        simp only [passA,hc,hVn,HT.pt,hh,hsb,cond_true,hA',hk',h2,List.map_cons]
       have fin:∀{v s2 N1 a σ2 g2 A2},(∀n,N1<=n->stepV C (recOf C n) ops o (envA baseE ops dm cls i m V' M1 o) s1=some (v,s2))->RV s2.heap g2 σ2.next a v->Sim C σ2 s2 g2 A2->Xt σ1 s1 g1 cur.A σ2 s2 g2 A2->
        passW C rw ops dm cls base k r (i+1) (V1.set i a) (W1.set i (Nat.shiftLeft 1 i)) qs pend1 (Nat.lor cur.p.done (Nat.shiftLeft 1 i)) (Nat.lor cur.p.clos m) σ2 (⟨cur.p.σ,cur.p.done,cur.p.clos⟩::hist.map (·.p))->
        ∃M V2' curF histF I σF sF gF e2,PEnd C ops dm cls base baseE k (o::r) i V' pend cur hist M V2' curF histF I σF sF gF e2:=by
        intro v s2 N1 a σ2 g2 A2 h1 h2 h3 h4 h5
        have hp2:=hp.heavy hG hV1 (a:=a) (v:=v) h2 h3 h4
        obtain ⟨M,V2',curF,histF,I,σF,sF,gF,e2,k1⟩:=pass_ok hrec hm r (i+1) (cur:=⟨⟨σ2,Nat.lor cur.p.done (Nat.shiftLeft 1 i),Nat.lor cur.p.clos m⟩,s2,g2,A2,M1⟩) (hist:=cur::hist) h5 hd' (by omega) hp2
        exact ⟨max M N1,V2',curF,histF,I,σF,sF,gF,e2,k1.step (fun n hn=>mstep h1 n hn) hcs (Xt.trans hcs hG.xt h4)⟩
       split at h
       · exact h.elim
       · rename_i hg
         obtain ⟨v,s2,a,σ2,g2,A2,N1,h1,h2,h3,h4,h5⟩:=heavy_ok hrec hG.sim henv (hg1 hg) h
         exact fin h1 h3 h4 h5 h2
       · rename_i d b vt vf hg
         obtain ⟨hwant,ht,hf⟩:=hg2 d b vt vf hg
         split at h
         · rename_i f P hP
           obtain ⟨x,hx,hk⟩:=h
           cases b with
           | true=>
             obtain ⟨v,s2,g2,A2,N1,h1,h2,h3,h4⟩:=pure_ok hrec hG.sim (ht rfl) hwant hP (hx rfl)
             exact fin (N1:=N1) (v:=v) (s2:=s2) (a:= .may true (P.val x)) h1 (.may true _ v (fun _=>h2) (fun e=>by cases e)) h3 h4 hk
           | false=>
             exact fin (N1:=0) (v:=undef) (s2:=s1) (a:= .may false (P.val x)) (fun n _=>by simp only [stepV,hwant]) (.may false _ undef (fun e=>by cases e) (fun _=>rfl)) hG.sim .refl hk
         rw [ask_iff] at h
         cases b with
         | true=>
           obtain ⟨v,s2,a,σ2,g2,A2,N1,h1,h2,h3,h4,h5⟩:=heavy_ok hrec hG.sim (ht rfl) hwant (h.1 rfl)
           exact fin h1 h3 h4 h5 h2
         | false=>
           exact fin (N1:=0) (v:=undef) (s2:=s1) (a:= .undef) (fun n _=>by simp only [stepV,hwant]) (.undef _) hG.sim .refl (h.2 rfl)
     | false=>
       rw [hh] at h
       simp only [cond_false] at h
       have hqb:quietB C o.op=true:=by
        unfold heavyB at hh
        cases hb:quietB C o.op with
        | true=>rfl
        | false=>rw [hb] at hh;simp at hh
       split at h
       · -- a new block that waits
         rename_i t hal
         cases hm0:Nat.beq m 0 with
         | false=>rw [hm0] at h;exact h.elim
         | true=>
         rw [hm0] at h
         simp only [cond_true] at h
         have hm0':=Nat.eq_of_beq_eq_true hm0
         subst hm0'
         have hp2:=hp.wait ho (fun _ _=>rfl) (.inl ⟨by rw [hal];rfl,hc⟩)
         obtain ⟨M,V2',curF,histF,I,σF,sF,gF,e2,k1⟩:=pass_ok hrec hm r (i+1) h hd' (by omega) hp2
         refine ⟨max M 0,V2',curF,histF,I,σF,sF,gF,e2,k1.step (fun n hn=> ?_) hcs cur.xt_refl⟩
         have hh':heavyB C cls cur.pt.done i 0 o r=false:=hh
         simp only [passA,hc,hVn,hh',cond_false]
         cases hz:C.zero t with
         | none=>simp only [alloc_fail hal hz]
         | some z=>
           have h0:Nat.beq (cur.B.new (.cells (cellsOf' z) t 0 none)).next cur.B.next=false:=by
            rw [Bool.eq_false_iff];intro h;have:=Nat.eq_of_beq_eq_true h;simp only [St.new] at this;omega
           simp only [alloc_step hal hz,h0,cond_false]
       · rename_i hal
         split at h
         · rename_i el hct
           split at h
           case h_2=>exact h.elim
           rename_i ps l hcx
           cases hn:needsOk m (Nat.land m cur.p.done) W i with
           | false=>rw [hn] at h;exact h.elim
           | true=>
           rw [hn] at h
           simp only [cond_true] at h
           obtain ⟨hps,hk⟩:=allP_iff.1 h
           obtain ⟨hps1,hps2⟩:=hps.append
           have hl:l.length<1099511627776:=hps2.cons.1
           have known:∀j,bitB m j=true->∃a v,V.get j=some a/\knownA V' cur.M j=some v/\RV cur.B.heap cur.g cur.p.σ.next a v:=by
            intro j hj
            obtain ⟨w',k6,k7⟩:=needsOk_spec hn j (hmlt j hj) hj
            rcases hp.vals j (hmlt j hj) with ⟨o',ho'⟩ | ⟨a2,v2,w,k1,k2,k3,k4,k5⟩
            · obtain ⟨_,_,_,_,_,_,h7,_⟩:=hp.pnd j o' ho'
              rw [h7] at k6;cases k6
            · exact ⟨a2,v2,k1,k2,k5 cur (List.mem_cons_self ..) k4⟩
           have henv:RE cur.B.heap cur.g cur.p.σ.next (envS base ops dm cls i m V o) (envA baseE ops dm cls i m V' cur.M o):=by
            refine env_rel (hp.base cur (List.mem_cons_self ..)) (fun j hj a' ha'=> ?_) o
            obtain ⟨a2,v2,k1,k2,k3⟩:=known j hj
            rw [k1] at ha';cases ha'
            exact ⟨v2,k2,k3⟩
           unfold convX at hcx
           split at hcx
           case h_2=>cases hcx
           rename_i src dst x hop
           split at hcx
           case h_2=>cases hcx
           rename_i p' l' harg
           cases hcx
           obtain ⟨v,h2,h3⟩:=arg_rel henv harg rfl hps1
           cases h3
           have hst:∀V2 M2,(∀y,bitB m y=true->knownA V2 M2 y=knownA V' cur.M y)->∀(rec:Rec) (s':St),stepV C rec ops o (envA baseE ops dm cls i m V2 M2 o) s'=
            some (.slice (some ⟨s'.next,0,none⟩) l.length (2*l.length+1),s'.new (.cells (l.map byteV) el 0 none)):=fun V2 M2 hV2 rec s'=>by
            rw [env_congr (V:=V') (M:=cur.M) hV2]
            exact conv_step hct hop h2 hl rec ops s'
           have hNB:NB C ops dm cls baseE V' cur.M i m o (fun n=> .slice (some ⟨n,0,none⟩) l.length (2*l.length+1)) (.cells (l.map byteV) el 0 none):=
            ⟨hqb,fun y hy=>⟨hmlt y hy,by obtain ⟨a2,v2,k1,k2,k3⟩:=known y hy;exact knownA_some k2⟩,fun n=>by simp [sameV],by simp [sameB,bytes_same],fun n=>by simp only [noIdB,bytes_noId],hst⟩
           have hp2:=hp.wait ho (V1:=V.set i (.str l)) (fun j hj=>by rw [T.get_set,if_neg hj]) (.inr ⟨hal,m,el,l,hct,hc,by rw [T.get_set,if_pos rfl],hNB⟩)
           obtain ⟨M,V2',curF,histF,I,σF,sF,gF,e2,k1⟩:=pass_ok hrec hm r (i+1) hk hd' (by omega) hp2
           refine ⟨max M 0,V2',curF,histF,I,σF,sF,gF,e2,k1.step (fun n hn=> ?_) hcs cur.xt_refl⟩
           have hh':heavyB C cls cur.pt.done i m o r=false:=hh
           have h3:stepV C (recOf C n) (Rg.ops ⟨ops,dm,cls,baseE⟩) o (Rg.env ⟨ops,dm,cls,baseE⟩ i m V' cur.M o) cur.B=some (_,_):=hst V' cur.M (fun _ _=>rfl) _ _
           have h4:cur.pt.M=cur.M:=rfl
           have h0:Nat.beq (cur.B.new (.cells (l.map byteV) el 0 none)).next cur.B.next=false:=by
            rw [Bool.eq_false_iff];intro h;have:=Nat.eq_of_beq_eq_true h;simp only [St.new] at this;omega
           simp only [passA,hc,hVn,hh',cond_false,h4,h3,h0]
         split at h
         · exact h.elim
         · rename_i p hfp
           split at h
           · exact h.elim
           · rename_i ps a hq
             cases hb:(sureV a&&(needsOk m (Nat.land m cur.p.done) W i&&stayOk p.σ.next cur.p.σ (fpOp C (envS base ops dm cls i m V o) o.op))) with
             | false=>rw [hb] at h;exact h.elim
             | true=>
               rw [hb] at h
               simp only [Bool.and_eq_true] at hb
               obtain ⟨b1,b2,b3⟩:=hb
               obtain ⟨hps,hk⟩:=allP_iff.1 h
               obtain ⟨v,h1,h2⟩:=hp.quiet ho hc hmlt hfp hq hps b1 b2 b3 hqb
               obtain ⟨M,V2',curF,histF,I,σF,sF,gF,e2,k1⟩:=pass_ok hrec hm r (i+1) (bindS_get hk) hd' (by omega) h2
               refine ⟨max M 0,V2',curF,histF,I,σF,sF,gF,e2,k1.step (fun n hn=> ?_) hcs cur.xt_refl⟩
               have h3:stepV C (recOf C n) (Rg.ops ⟨ops,dm,cls,baseE⟩) o (Rg.env ⟨ops,dm,cls,baseE⟩ i m V' cur.M o) cur.B=some (v,cur.B):=h1 _
               have hh':heavyB C cls cur.pt.done i m o r=false:=hh
               have h4:cur.pt.M=cur.M:=rfl
               simp only [passA,hc,hVn,hh',cond_false,h4,h3,Nat.beq_refl,cond_true]
theorem puts_ok {h:T Blk} {g:Gh} {N:Nat} {V:T SV} {V':T Value} {I:T Info}:∀{l:List Oper} {i:Nat} {e e2:SE} {e':E},(∀x,x<l.length->∃a v,V.get (i+x)=some a/\knownA V' I (i+x)=some v/\RV h g N a v)->RE h g N e e'->putsS V l i e=some e2->
 ∃e2',putsA V' I l i e'=some e2'/\RE h g N e2 e2'
 | [],i,e,e2,e',hv,he,hp=>by
   simp only [putsS,Option.some.injEq] at hp;subst hp
   exact ⟨e',rfl,he⟩
 | o::r,i,e,e2,e',hv,he,hp=>by
   simp only [putsS] at hp
   obtain ⟨a,v,h1,h2,h3⟩:=hv 0 (by simp)
   rw [Nat.add_zero] at h1 h2
   rw [h1] at hp
   simp only at hp
   split at hp
   · rename_i e3 he3
     obtain ⟨e3',k1,k2⟩:=put_rel he h3 he3
     obtain ⟨e2',k3,k4⟩:=puts_ok (i:=i+1) (fun x hx=>by
      have:=hv (x+1) (by simp;omega)
      rw [show i+(x+1)=i+1+x by omega] at this
      exact this) k2 hp
     exact ⟨e2',by simp only [putsA,h2,k1,k3],k4⟩
   · cases hp
theorem draw_ok {rw:SRec} (hrec:RecWOk C rw) (cf:SCf):DrawWOk C rw cf:=by
 intro id ops
 refine ⟨fun {σ s g A e e' su u k} hs he hu hw=> ?_⟩
 unfold drawW at hw
 split at hw
 · rename_i cls dm hcls hdm
   have hm:Masks ops.toList cls:=masks_of hcls
   have hpi:PI C ops.toList dm cls e e' 0 .nil .nil [] [] .nil [] ⟨⟨σ,0,0⟩,s,g,A,.nil⟩:=by
    refine ⟨fun t ht=> ?_,fun t ht=> ?_,by simp,fun j hj=> ?_,fun t ht=> ?_,fun j hj=>by omega,fun j _=>⟨T.get_nil j,T.get_nil j,T.get_nil j⟩,fun t ht j hj=> ?_,fun j o h=>(by cases h),by simp,fun j f hf=> ?_,fun j j' f f' hf=> ?_,fun j hj=>by omega⟩
    · simp only [List.mem_singleton] at ht;subst ht;exact hs
    · simp only [List.mem_singleton] at ht;subst ht;exact he
    · rw [bit_zero] at hj;cases hj
    · simp only [List.mem_singleton] at ht;subst ht;exact subB_refl _
    · simp only [List.mem_singleton] at ht;subst ht;exact hj
    · simp only [T.get_nil] at hf;cases hf
    · simp only [T.get_nil] at hf;cases hf
   obtain ⟨M,V2',curF,histF,I,σF,sF,gF,e2,k1⟩:=pass_ok hrec hm ops.toList 0 (cur:=⟨⟨σ,0,0⟩,s,g,A,.nil⟩) (hist:=[]) hw (List.drop_zero) (Nat.zero_le _) hpi
   obtain ⟨V1,hV1,hputs⟩:=k1.puts
   obtain ⟨e2',p1,p2⟩:=puts_ok (h:=sF.heap) (g:=gF) (N:=σF.next) (V:=V1) (V':=V2') (I:=I) (i:=0) (l:=ops.toList) (fun x hx=>by
    rw [Nat.zero_add]
    exact hV1 x hx) k1.base hputs
   have hxt:Xt σ s g A σF sF gF curF.A:=k1.xt
   refine ⟨.fin .normal e2' u sF,M,fun n hn=> ?_,.normal,e2,su,σF,gF,curF.A,k1.k,trivial,p2,hu.mono hxt.grow,k1.sim,Xt.wx hxt⟩
   have hr:=k1.run n hn
   have hr':passA C (recOf C n) ⟨ops.toList,dm,cls,e'⟩ ops.toList 0 .nil [] ⟨s,.nil,0,0⟩ s []=some (V2',(curF::histF).map HT.pt,I,curF.p.done,sF.next,.fin sF):=hr
   have hall:((curF::histF).map HT.pt).all (fun q=>quietAll C (recOf C n) ⟨ops.toList,dm,cls,e'⟩ V2' I curF.p.done sF.next q ops.toList 0)=true:=by
    rw [List.all_eq_true]
    intro q hq
    obtain ⟨t,ht,rfl⟩:=List.mem_map.1 hq
    exact k1.quiet _ t ht
   simp only [codeA,cond_true,drawnA,hcls,hdm,hr',k1.infos,hall,Bool.and_self,p1]
 · exact hw.elim
theorem spec_sound {Sp:List (Nat×FSpec)} (hSp:SpOk C Sp) {f:FuncId} {S:FSpec} {An:S.X->Nat->Option Cut} {n:Nat} (h:FnVC C Sp f S An n):SpecOk C f S:=
 spec_of (rec_ok hSp (fun n h cf=>draw_ok h cf) n) (fun cf=>draw_ok (rec_ok hSp (fun n h cf=>draw_ok h cf) n) cf) h
theorem SpOk.nil:SpOk C []:=fun f S h=>by cases h
theorem SpOk.cons {Sp:List (Nat×FSpec)} {f:FuncId} {S:FSpec} (h:SpecOk C f S) (hSp:SpOk C Sp):SpOk C ((f,S)::Sp):=by
 intro f' S' h'
 simp only [spGet] at h'
 cases hb:Nat.beq f f' with
 | true=>
   rw [hb] at h'
   cases h'
   have:=Nat.eq_of_beq_eq_true hb
   subst this
   exact h
 | false=>rw [hb] at h';exact hSp f' S' h'
end
end Go.Eng
namespace Go.Eng
structure XJ where
 l:List (List UInt8)
 sep:List UInt8
noncomputable def sp_Join:FSpec where
 X:=XJ
 pre x:=0<x.l.length/\x.l.length<=1099511627776/\(joinL x.l x.sep).length<1099511627776
 args x:=[.imm 0 false x.l.length 1 fun i=>[.str (x.l.getD i [])],.str x.sep]
 base:=[]
 own _:=[]
 out x:= .ret (.str (joinL x.l x.sep)) []
theorem imm_pos {h:T Blk} {g:Gh} {N r n sz:Nat} {nn:Bool} {f:Nat->List SV} {a:SV} {v:Value} (hv:RV h g N a v) (e:a= .imm r nn n sz f) (hn:0<n):
 ∃(id off cap:Nat) (cs:List Value) (el:TypeId) (st:Nat) (par:Option Nat) (vs:Nat->Nat->Value),v= .slice (some ⟨id,off,none⟩) n cap/\h.get id=some (.cells cs el st par)/\(∀(i j:Nat),i<n->j<sz->cs[off+(i*sz+j)]? =some (vs i j))/\
  (∀(i j:Nat) (a:SV),i<n->(f i)[j]? =some a->RV h g.frz 0 a (vs i j))/\n<=capOf cap:=by
 cases hv<;>cases e
 case imm id off cap cs el st par vs _ _ _ _ _ _ _=>
  have h5:∀(i j:Nat),i<n->j<sz->cs[off+(i*sz+j)]? =some (vs i j)/\(vs i j).oneCell'=true:=by assumption
  exact ⟨id,off,cap,cs,el,st,par,vs,rfl,by assumption,fun i j hi hj=>(h5 i j hi hj).1,by assumption,by assumption⟩
 all_goals omega
theorem str_val {h:T Blk} {g:Gh} {N:Nat} {a:SV} {v:Value} {l:List UInt8} (hv:RV h g N a v) (e:a= .str l):v= .string ⟨⟨l⟩⟩:=by
 cases hv<;>cases e
 rfl
theorem strsA_of:∀(l:List (List UInt8)),strsA (l.map fun x=> .string ⟨⟨x⟩⟩)=some (l.map fun x=>⟨⟨x⟩⟩)
 | []=>rfl
 | x::r=>by simp only [List.map_cons,strsA,strsA_of r]
theorem join_ok {C:Cx} {f:Nat} {fn:Func} (h1:C.joins=some f) (h2:C.funcs.get f=some fn) (h3:fn.body.isSome=true):SpecOk C f sp_Join:=by
 intro x hx s g A args hs hl
 obtain ⟨p1,p2,p3⟩:=hx
 obtain ⟨v,ws,rfl,k1,hl⟩:=hl.cons_inv
 obtain ⟨w,ws,rfl,k2,hl⟩:=hl.cons_inv
 have:=hl.nil_inv
 subst this
 obtain ⟨id,off,cap,cs,el,st,par,vs,rfl,q2,q3,q4,q5⟩:=imm_pos k1 rfl p1
 have:=str_val k2 rfl
 subst this
 have hcells:(cs.drop off).take x.l.length=x.l.map fun y=> .string ⟨⟨y⟩⟩:=by
  refine List.ext_getElem? fun i=> ?_
  rw [List.getElem?_take,List.getElem?_drop,List.getElem?_map]
  split
  · rename_i hi
    have e1:=q3 i 0 hi (by omega)
    have e2:=str_val (q4 i 0 _ hi rfl) rfl
    rw [Nat.mul_one,Nat.add_zero] at e1
    rw [e1,e2]
    simp [List.getD,hi]
  · rename_i hi
    rw [List.getElem?_eq_none (by omega)];rfl
 have hj:sureA C false f [.slice (some ⟨id,off,none⟩) x.l.length cap,.string ⟨⟨x.sep⟩⟩] s=some (.string ⟨⟨joinL x.l x.sep⟩⟩):=by
  have hi:isJoin C f=true:=by simp [isJoin,h1]
  have e:(x.l.map fun y=>(⟨⟨y⟩⟩:ByteArray)).map (·.data.toList)=x.l:=by simp [Function.comp_def]
  simp only [sureA,hi,cond_true,joinA,q2,hcells,strsA_of,e,List.length_map]
  have:(Nat.beq x.l.length x.l.length&&Nat.ble x.l.length (capOf cap)&&Nat.ble x.l.length 1099511627776&&Nat.blt (joinL x.l x.sep).length 1099511627776)=true:=by
   simp only [Bool.and_eq_true,beq_iff,ble_iff,blt_iff]
   exact ⟨⟨⟨trivial,q5⟩,p2⟩,p3⟩
  rw [this];rfl
 refine ⟨.returned (.string ⟨⟨joinL x.l x.sep⟩⟩) .run s,.body fn _ 1 h2 h3 fun n hn=> ?_,_,s,g,A,rfl,hs,.str _,.refl⟩
 obtain ⟨n,rfl⟩:∃r,n=r+1:=⟨n-1,by omega⟩
 show callS C (recOf C n) n false f _ .run s=_
 simp only [callS,hj]
end Go.Eng
namespace Go.Eng
theorem ask_p {b:Bool} {p t f:Prop} (hb:b=true↔p) (ht:p->t) (hf:¬p->f):ask b t f:=by
 cases b with
 | true=>exact ht (hb.1 rfl)
 | false=>exact hf fun h=>by cases hb.2 h
theorem bp_dec {p:Prop} [Decidable p]:(decide p=true)↔p:=decide_eq_true_iff
theorem bp_and {a b:Bool} {p q:Prop} (ha:a=true↔p) (hb:b=true↔q):(cond a b false)=true↔p/\q:=by cases a<;>simp_all
theorem bp_or {a b:Bool} {p q:Prop} (ha:a=true↔p) (hb:b=true↔q):(cond a true b)=true↔p\/q:=by cases a<;>simp_all
theorem bp_not {a:Bool} {p:Prop} (ha:a=true↔p):(!a)=true↔¬p:=by cases a<;>simp_all
theorem bp_le {a b:Nat}:leNB a b=true↔a<=b:=decide_eq_true_iff
theorem bp_andl {a b:Bool} {q:Prop} (ha:a=true↔True) (hb:b=true↔q):(cond a b false)=true↔q:=by cases a<;>simp_all
theorem bp_andfl {a b:Bool} {q:Prop} (ha:a=true↔False) (hb:b=true↔q):(cond a b false)=true↔False:=by cases a<;>simp_all
theorem bp_id {a:Bool}:a=true↔a=true:=Iff.rfl
theorem bp_true:true=true↔True:=by simp
theorem bp_false:false=true↔False:=by simp
theorem wrap_i64 (e:Int):IntKind.i64.wrap e=(e+9223372036854775808)%18446744073709551616-9223372036854775808:=by
 simp [IntKind.wrap,IntKind.bits,IntKind.signed];omega
theorem wrap_u64 (e:Int):IntKind.u64.wrap e=e%18446744073709551616:=by simp [IntKind.wrap,IntKind.bits,IntKind.signed]
theorem wrap_u32 (e:Int):IntKind.u32.wrap e=e%4294967296:=by simp [IntKind.wrap,IntKind.bits,IntKind.signed]
theorem wrap_u8 (e:Int):IntKind.u8.wrap e=e%256:=by simp [IntKind.wrap,IntKind.bits,IntKind.signed]
theorem cutL_eq (l:List UInt8) (o n:Nat):cutL l o n=(l.drop o).take n:=rfl
theorem take_put {α:Type} (l:List α) (k:Nat) (v:α) (r:List α) (h:k<=l.length):List.take (k+1) (List.take (0+k) l++v::r)=List.take k l++[v]:=by
 rw [Nat.zero_add,List.take_append,List.take_take]
 simp [Nat.min_eq_left h,Nat.min_eq_right (Nat.le_succ k)]
theorem u8_wrap (n:Nat):IntKind.u8.wrap (n:Int)=((n%256:Nat):Int):=by
 simp [IntKind.wrap,IntKind.bits,IntKind.signed]
theorem wor128 (n:Nat):IntKind.u8.wrap ↑(BitVec.ofInt 8 (IntKind.u8.wrap (n:Int)) ||| BitVec.ofInt 8 128).toNat=((n%128+128:Nat):Int):=by
 have h1:(BitVec.ofInt 8 (IntKind.u8.wrap (n:Int)) ||| BitVec.ofInt 8 128).toNat=n%128+128:=by
  rw [u8_wrap,BitVec.toNat_or,BitVec.toNat_ofInt,BitVec.toNat_ofInt]
  have e1:(((n%256:Nat):Int)%(2^8:Nat)).toNat=n%256:=by omega
  have e2:((128:Int)%(2^8:Nat)).toNat=128:=by decide
  rw [e1,e2]
  have h:n%256<256:=by omega
  have key:∀m,m<256->m ||| 128=m%128+128:=by decide+kernel
  have:=key (n%256) h
  omega
 rw [h1,u8_wrap]
 omega
theorem wrap_succ (i:Nat) (h:i<1099511627776):IntKind.i64.wrap ((i:Int)+1)=((i+1:Nat):Int):=by rw [wrap_i64];omega
end Go.Eng
