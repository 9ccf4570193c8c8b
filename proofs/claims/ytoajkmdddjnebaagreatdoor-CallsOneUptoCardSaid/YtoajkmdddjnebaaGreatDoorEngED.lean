import Derived.Test.YtoajkmdddjnebaaGreatDoorEngEC
import Derived.Laws.Externs
import Derived.Lib.Bytealg
import Derived.Lib.MakeNoZero
import Derived.KernelRfl
import Derived.Recover
import Derived.Conc.LoneCalls
import Derived.Conc.LoneSelect
set_option linter.unusedSimpArgs false
set_option linter.unusedVariables false
namespace Go.Eng
section
variable {C:Cx} {P:Program} {φ:Phi} {D:Nat->Prop} {s:St} {w:World} {e:E} {a:Act}
theorem len_sound (hC:CxOk C P) (hr:Rel C φ D s.heap w) {argTypes:Array TypeId} {type:TypeId} {args:List Value} {v:Value} (h:lenA C argTypes.toList args s=some v):
 (Builtin.len_ argTypes type (denL φ args).toArray).run P w= .ok (den φ v) w/\Ok D v:=by
 unfold lenA at h
 split at h
 case h_2=>cases h
 rename_i t rt x rx hat
 have at0:argTypes[0]? =some t:=by rw [<-Array.getElem?_toList,hat];rfl
 have av0:(denL φ (x::rx)).toArray[0]? =some (den φ x):=by simp [denL]
 unfold Builtin.len_
 simp only [at0,av0,Sem.run_bind]
 split at h
 · rename_i b hu
   cases h
   simp only [run_und hC hu,Result.andThen_ok,den,Sem.run_pure,goInt,Ok];exact ⟨trivial,trivial⟩
 · rename_i n el hu
   cases h
   simp only [run_und hC hu,Result.andThen_ok,den,Sem.run_pure,goInt,Ok];exact ⟨trivial,trivial⟩
 · rename_i el ad n cap hu
   cases h
   rw [run_und hC hu,Result.andThen_ok]
   refine ⟨?_,by simp [Ok]⟩
   cases ad<;>simp [den,goInt]
 · rename_i k el hu
   cases h
   simp only [run_und hC hu,Result.andThen_ok,den,Sem.run_pure,goInt,Ok];exact ⟨trivial,trivial⟩
 · rename_i k el r hu
   split at h
   · rename_i es clock hb
     cases h
     obtain ⟨ho,h1⟩:=hr.blk r _ hb
     simp only [run_und hC hu,Result.andThen_ok,den,Sem.run_bind,run_getObj h1 (by intro _ _ _ h;cases h),Sem.run_pure,goInt,Ok]
     simp
   · cases h
 · rename_i dir el hu
   cases h
   simp only [run_und hC hu,Result.andThen_ok,den,Sem.run_pure,goInt,Ok];exact ⟨trivial,trivial⟩
 · rename_i dir el r hu
   split at h
   · rename_i cap buf sent rcvd hb
     cases h
     obtain ⟨ho,h1⟩:=hr.blk r _ hb
     simp only [run_und hC hu,Result.andThen_ok,den,Sem.run_bind,run_getObj h1 (by intro _ _ _ h;cases h),Sem.run_pure,goInt,Ok]
     simp [denL_map]
   · cases h
 · cases h
theorem typeAssert_sound (hC:CxOk C P) {x v:Value} {xType asserted:TypeId} {ok:Bool} (h:typeAssertA C x asserted ok=some v) (hx:Ok D x):
 (Instr.typeAssert (den φ x) xType asserted ok).run P w= .ok (den φ v) w/\Ok D v:=by
 unfold typeAssertA at h
 split at h
 case h_2=>cases h
 rename_i d hu
 replace h:=bool_split h;rcases h with ⟨_,h⟩ | ⟨hd,h⟩
 · cases h
 unfold Instr.typeAssert
 simp only [Sem.run_bind,run_und hC hu,Result.andThen_ok]
 split at h
 · rename_i t u
   simp only [Ok] at hx
   replace h:=bool_split h;rcases h with ⟨ht,h⟩ | ⟨ht,h⟩
   · rw [beq_iff] at ht
     subst ht
     cases h
     cases ok with
     | true=>
       refine ⟨?_,ok_bool2 hx true⟩
       simp only [cond_true,den_bool2]
       simp only [den]
       cases d<;>simp [isIfaceD] at hd ⊢
     | false=>
       refine ⟨?_,hx⟩
       simp only [cond_false]
       simp only [den]
       cases d<;>simp [isIfaceD] at hd ⊢
   · have ht':=beq_false ht
     replace h:=bool_split h;rcases h with ⟨hok,h⟩ | ⟨_,h⟩
     case inr=>cases h
     subst hok
     split at h
     case h_2=>cases h
     rename_i z hz
     cases h
     obtain ⟨hz1,hz2⟩:=zero_of hC hz
     have hcl:=closed_den φ D z hz2
     refine ⟨?_,ok_bool2 hcl.2 false⟩
     simp only [den_bool2,hcl.1]
     simp only [den]
     cases d<;>simp [isIfaceD] at hd<;>simp [ht',hz1]
 · replace h:=bool_split h;rcases h with ⟨hok,h⟩ | ⟨_,h⟩
   case inr=>cases h
   subst hok
   split at h
   case h_2=>cases h
   rename_i z hz
   cases h
   obtain ⟨hz1,hz2⟩:=zero_of hC hz
   have hcl:=closed_den φ D z hz2
   refine ⟨?_,ok_bool2 hcl.2 false⟩
   simp only [den_bool2,hcl.1]
   simp only [den]
   cases d<;>simp [isIfaceD] at hd<;>simp [hz1]
 · cases h
theorem max2_sound {x y v:Value} (h:max2A x y=some v):(Builtin.max2 (den φ x) (den φ y)).run P w= .ok (den φ v) w/\Ok D v:=by
 unfold max2A at h
 split at h
 · cases h
   rename_i k n k' m
   refine ⟨?_,by simp [Ok]⟩
   simp only [Builtin.max2,den,Sem.run_pure]
   by_cases hlt:n<m<;>simp [hlt]
 · cases h
theorem min2_sound {x y v:Value} (h:min2A x y=some v):(Builtin.min2 (den φ x) (den φ y)).run P w= .ok (den φ v) w/\Ok D v:=by
 unfold min2A at h
 split at h
 · cases h
   rename_i k n k' m
   refine ⟨?_,by simp [Ok]⟩
   simp only [Builtin.min2,den,Sem.run_pure]
   by_cases hlt:m<n<;>simp [hlt]
 · cases h
theorem fold_sound {f:Value->Value->Option Value} {g:Value->Value->Sem Value} (hf:∀x y v,f x y=some v->(g (den φ x) (den φ y)).run P w= .ok (den φ v) w/\Ok D v):
 ∀{l:List Value} {x v:Value},Ok D x->foldA f x l=some v->((denL φ l).foldlM g (den φ x)).run P w= .ok (den φ v) w/\Ok D v
 | [],x,v,hx,h=>by simp only [foldA,Option.some.injEq] at h;subst h;exact ⟨by simp [denL],hx⟩
 | y::r,x,v,hx,h=>by
   simp only [foldA] at h
   split at h
   · rename_i z hz
     obtain ⟨h1,h2⟩:=hf x y z hz
     obtain ⟨h3,h4⟩:=fold_sound hf h2 h
     refine ⟨?_,h4⟩
     simp only [denL,List.foldlM_cons,Sem.run_bind,h1,Result.andThen_ok,h3]
   · cases h
theorem op_range (hC:CxOk C P) (hr:Rel C φ D s.heap w) (hn:¬D s.next) {t:TypeId} {x:Value}:
 OpOk C φ D s w (rangeA C t x s) ((do pure (.value (<-Instr.range t (den φ x))):Sem Next).run P w):=by
 have new:∀(b:Blk) (o:Obj),(∀(φ':Phi) (D':Nat->Prop) (w':World),(∀i,D i->D' i)->(∀i,D i->φ' i=φ i)->w'.heap[w.heap.size]? =some o->BlkIs C φ' D' w' ⟨w.heap.size,0,0,none⟩ b)->
  (Instr.range t (den φ x)).run P w= .ok (.pointer (some ⟨w.heap.size,0,none⟩)) {w with heap:=w.heap.push o}->
  OpOk C φ D s w (.ok (.value (.pointer (some ⟨s.next,0,none⟩))) (s.new b)) ((do pure (.value (<-Instr.range t (den φ x))):Sem Next).run P w):=by
  intro b o hb hrun
  have hφ:∀i,D i->updPhi φ s.next ⟨w.heap.size,0,0,none⟩ i=φ i:=fun i hi=>by
   unfold updPhi;rw [if_neg];intro e;subst e;exact hn hi
  obtain ⟨h1,h2⟩:=hr.new (w':={w with heap:=w.heap.push o}) hn rfl rfl rfl rfl (hb (updPhi φ s.next ⟨w.heap.size,0,0,none⟩) (addD D s.next) _ (fun _ h=> .inl h) hφ (by simp))
  refine ⟨_,_,_,h1,h2,.inr ⟨rfl,rfl⟩,.value (.pointer (some ⟨w.heap.size,0,none⟩)), ?_,ok_newPtr _ _,(den_newPtr ..).symm⟩
  simp only [Sem.run_bind,hrun,Result.andThen_ok,Sem.run_pure]
 generalize hg:rangeA C t x s=res
 unfold rangeA at hg
 split at hg
 · rename_i b hu
   subst hg
   refine new _ (.stringIter b 0) (fun φ' D' w' _ _ h=>⟨rfl,h⟩) ?_
   simp only [Instr.range,Sem.run_bind,run_und hC hu,Result.andThen_ok,den,Sem.run_pure,run_newObj]
 · rename_i k el hu
   subst hg
   refine new _ (.mapIter none 0 #[] 0) (fun φ' D' w' _ _ h=>⟨(fun _ h=>by cases h),rfl,h⟩) ?_
   simp only [Instr.range,Sem.run_bind,run_und hC hu,Result.andThen_ok,den,Sem.run_pure,run_newObj]
 · rename_i k el m hu
   split at hg
   case h_2=>subst hg;trivial
   rename_i es clock hb
   subst hg
   obtain ⟨ho,h1⟩:=hr.blk m _ hb
   have hDm:=hr.dom m _ hb
   refine new _ (.mapIter (some (φ m).block) clock #[] clock) (fun φ' D' w' hD hφ h=>⟨fun i hi=>by cases hi;exact hD _ hDm,rfl,by rw [h];simp [hφ _ hDm]⟩) ?_
   simp only [Instr.range,Sem.run_bind,run_und hC hu,Result.andThen_ok,den,run_getObj h1 (by intro _ _ _ h;cases h),Sem.run_pure,run_newObj]
 · subst hg;trivial
end
end Go.Eng
namespace Go.Eng
section
variable {C:Cx} {P:Program} {φ:Phi} {D:Nat->Prop} {s:St} {w:World} {e:E} {a:Act}
theorem utf8_ascii (l:List UInt8) (pos:Nat) (c:UInt8) (h:l[pos]? =some c) (hc:c.toNat<128):Utf8.decode ⟨⟨l⟩⟩ pos=(c.toNat,1):=by
 have hlt:=(List.getElem?_eq_some_iff.1 h).1
 have h0:((ByteArray.mk ⟨l⟩).get! (pos+0)).toNat=c.toNat:=by
  have:(ByteArray.mk ⟨l⟩).get! (pos+0)=c:=by
   simp only [ByteArray.get!,Nat.add_zero]
   rw [getElem!_pos _ _ (by simpa using hlt)]
   have:=(List.getElem?_eq_some_iff.1 h).2
   simpa using this
  rw [this]
 unfold Utf8.decode
 simp only [h0]
 rw [if_pos hc]
theorem den_tup1 (φ:Phi) (b:Bool):den φ (.tuple #[.bool b])= .tuple #[.bool b]:=by simp [den,denA,denL]
theorem ok_tup1 (D:Nat->Prop) (b:Bool):Ok D (.tuple #[.bool b]):=by simp [Ok,OkA,OkL]
theorem den_tup3 (φ:Phi) (x y z:Value):den φ (.tuple #[x,y,z])= .tuple #[den φ x,den φ y,den φ z]:=by simp [den,denA,denL]
theorem ok_tup3 {D:Nat->Prop} {x y z:Value} (h1:Ok D x) (h2:Ok D y) (h3:Ok D z):Ok D (.tuple #[x,y,z]):=by
 simp only [Ok,OkA,OkL];exact ⟨h1,h2,h3,trivial⟩
theorem memN_eq (n:Nat):∀(l:List Nat),memN n l=l.contains n
 | []=>rfl
 | a::r=>by
   have e:Nat.beq a n=(n==a):=by
    cases h:Nat.beq a n with
    | true=>rw [Nat.eq_of_beq_eq_true h];simp
    | false=>have:=Nat.ne_of_beq_eq_false h;simp [Ne.symm this]
   rw [memN,memN_eq n r,List.contains_cons,e]
theorem op_next (hC:CxOk C P) (hr:Rel C φ D s.heap w) {it:Value} {isS:Bool} {t:TypeId}:
 OpOk C φ D s w (nextA it isS s) ((do pure (.value (<-Instr.next (den φ it) isS t)):Sem Next).run P w):=by
 generalize hg:nextA it isS s=res
 unfold nextA at hg
 split at hg
 case h_2=>subst hg;trivial
 rename_i r
 split at hg
 · rename_i l pos hb
   obtain ⟨h0,h1⟩:(φ r).off=0/\w.heap[(φ r).block]? =some (.stringIter ⟨⟨l⟩⟩ pos):=hr.blk r _ hb
   have hit:den φ (.pointer (some ⟨r,0,none⟩))= .pointer (some ⟨(φ r).block,0,none⟩):=by simp [den,h0]
   rw [hit]
   replace hg:=bool_split hg;rcases hg with ⟨hS,hg⟩ | ⟨_,hg⟩
   case inr=>subst hg;trivial
   subst hS
   have hsz:(ByteArray.mk ⟨l⟩).size=l.length:=rfl
   split at hg
   · replace hg:=bool_split hg;rcases hg with ⟨hle,hg⟩ | ⟨_,hg⟩
     case inr=>subst hg;trivial
     rw [ble_iff] at hle
     subst hg
     refine .ok_value hr ?_ (ok_tup1 D false)
     simp only [Instr.next,Sem.run_bind,run_getObj h1 (by intro _ _ _ h;cases h),Result.andThen_ok,hsz]
     rw [if_neg (by omega)]
     simp [den_tup1]
   · rename_i c hc
     replace hg:=bool_split hg;rcases hg with ⟨hlt,hg⟩ | ⟨_,hg⟩
     case inr=>subst hg;trivial
     rw [blt_iff] at hlt
     rw [nth_eq] at hc
     subst hg
     have hset:=hr.setObj (o:= .stringIter ⟨⟨l⟩⟩ (pos+1)) hb rfl rfl rfl (b':= .sIter l (pos+1)) ⟨h0,setB_same (heap_lt h1)⟩
     refine ⟨φ,D,_,hset.1,hset.2,.inl ⟨rfl,rfl⟩,.value (.tuple #[.bool true,.int .i64 pos,.int .i32 c.toNat]), ?_,ok_tup3 (by simp [Ok]) (by simp [Ok]) (by simp [Ok]),by rw [den_tup3];simp [den]⟩
     have hpl:=(List.getElem?_eq_some_iff.1 hc).1
     simp only [Instr.next,Sem.run_bind,run_getObj h1 (by intro _ _ _ h;cases h),Result.andThen_ok,hsz]
     rw [if_pos hpl]
     simp only [utf8_ascii l pos c hc hlt,Sem.run_bind,run_setObj h1 (by intro _ _ _ h;cases h),Result.andThen_ok,Sem.run_pure,goInt]
 · rename_i since seen last hb
   obtain ⟨_,h0,h1⟩:=hr.blk r _ hb
   have hit:den φ (.pointer (some ⟨r,0,none⟩))= .pointer (some ⟨(φ r).block,0,none⟩):=by simp [den,h0]
   rw [hit]
   replace hg:=bool_split hg;rcases hg with ⟨hS,hg⟩ | ⟨hS,hg⟩
   · subst hg;trivial
   subst hS
   subst hg
   refine .ok_value hr ?_ (ok_tup1 D false)
   simp only [Instr.next,Sem.run_bind,run_getObj h1 (by intro _ _ _ h;cases h),Result.andThen_ok]
   simp [den_tup1]
 · rename_i m since seen last hb
   obtain ⟨hmD,h0,h1⟩:=hr.blk r _ hb
   have hit:den φ (.pointer (some ⟨r,0,none⟩))= .pointer (some ⟨(φ r).block,0,none⟩):=by simp [den,h0]
   rw [hit]
   replace hg:=bool_split hg;rcases hg with ⟨hS,hg⟩ | ⟨hS,hg⟩
   · subst hg;trivial
   subst hS
   split at hg
   case h_2=>subst hg;trivial
   rename_i es clock hm
   obtain ⟨hes,hm1⟩:=hr.blk m _ hm
   replace hg:=bool_split hg;rcases hg with ⟨_,hg⟩ | ⟨hnot,hg⟩
   · subst hg;trivial
   simp only [Option.map_some] at h1
   have hcheck:(!seen.toArray.isEmpty&& !(es.map (denE φ)).toArray.isEmpty&&(es.map (denE φ)).toArray.all (fun e=>decide (e.born>=last)))=false:=by
    rw [<-hnot]
    have e1:(es.map (denE φ)).toArray.all (fun e=>decide (e.born>=last))=es.all (fun e=>Nat.ble last e.born):=by
     rw [List.all_toArray,List.all_map]
     congr 1
     funext e
     simp only [Function.comp,denE]
     rw [Bool.eq_iff_iff];simp [Nat.ble_eq]
    rw [e1]
    cases seen<;>cases es<;>simp
   have hleft:(es.map (denE φ)).toArray.filter (fun e=> !seen.toArray.contains e.born)=((es.filter fun e=> !memN e.born seen).map (denE φ)).toArray:=by
    rw [List.filter_toArray,List.filter_map]
    congr 3
    funext e
    simp only [Function.comp,denE,List.contains_toArray,memN_eq]
   split at hg
   · rename_i hfil
     subst hg
     refine .ok_value hr ?_ (ok_tup1 D false)
     simp only [Instr.next,Sem.run_bind,run_getObj h1 (by intro _ _ _ h;cases h),Result.andThen_ok,run_getObj hm1 (by intro _ _ _ h;cases h),hcheck,Bool.false_eq_true,if_false,Sem.run_pure,hleft,hfil]
     have hq:(Question.mapNext 1).forced=true:=rfl
     simp [den_tup1,hq]
   · rename_i e hfil
     replace hg:=bool_split hg;rcases hg with ⟨hlt,hg⟩ | ⟨_,hg⟩
     case inr=>subst hg;trivial
     rw [blt_iff] at hlt
     subst hg
     have hmem:e∈es:=by
      have:e∈es.filter fun e=> !memN e.born seen:=by rw [hfil];exact List.mem_singleton.2 rfl
      exact (List.mem_filter.1 this).1
     have hset:=hr.setObj (o:= .mapIter (some (φ m).block) since (seen++[e.born]).toArray clock) hb rfl rfl rfl (b':= .mIter (some m) since (seen++[e.born]) clock) ⟨fun i hi=>hmD i hi,h0,setB_same (heap_lt h1)⟩
     refine ⟨φ,D,_,hset.1,hset.2,.inl ⟨rfl,rfl⟩,.value (.tuple #[.bool true,den φ e.key,den φ e.val]), ?_,ok_tup3 (by simp [Ok]) (hes e hmem).1 (hes e hmem).2,by rw [den_tup3];simp [den]⟩
     simp only [Instr.next,Sem.run_bind,run_getObj h1 (by intro _ _ _ h;cases h),Result.andThen_ok,run_getObj hm1 (by intro _ _ _ h;cases h),hcheck,Bool.false_eq_true,if_false,Sem.run_pure,hleft,hfil]
     have hq:(Question.mapNext 1).forced=true:=rfl
     simp [denE,hlt,hq,run_setObj h1 (by intro _ _ _ h;cases h)]
   · subst hg;trivial
 · subst hg;trivial
theorem entry_sound (hr:Rel C φ D s.heap w) {it v:Value} (h:entryA it s=some v):(Instr.entry (den φ it)).run P w= .ok (den φ v) w/\Ok D v:=by
 unfold entryA at h
 split at h
 case h_2=>cases h
 rename_i r
 split at h
 case h_2=>cases h
 rename_i m since seen stepped hb
 split at h
 case h_2=>cases h
 rename_i es clock hm
 replace h:=bool_split h;rcases h with ⟨hcl,h⟩ | ⟨_,h⟩
 case inr=>cases h
 rw [beq_iff] at hcl
 split at h
 case h_2=>cases h
 rename_i st hst
 split at h
 case h_2=>cases h
 rename_i en hen
 cases h
 obtain ⟨_,h0,h1⟩:=hr.blk r _ hb
 obtain ⟨hes,hm1⟩:=hr.blk m _ hm
 simp only [Option.map_some] at h1
 have hit:den φ (.pointer (some ⟨r,0,none⟩))= .pointer (some ⟨(φ r).block,0,none⟩):=by simp [den,h0]
 have hmem:en∈es:=List.mem_of_find?_eq_some hen
 have hback:seen.toArray.back? =some st:=by rw [<-hst,List.back?_toArray]
 have hfind:(es.map (denE φ)).toArray.find? (fun e=>e.born==st)=some (denE φ en):=by
  have:(fun e:MapEntry=>Nat.beq e.born st)=fun e=>e.born==st:=by
   funext e
   cases h:Nat.beq e.born st with
   | true=>rw [Nat.eq_of_beq_eq_true h];simp
   | false=>have:=Nat.ne_of_beq_eq_false h;simp [this]
  rw [this] at hen
  rw [List.find?_toArray,List.find?_map]
  have hf:((fun e:MapEntry=>e.born==st)∘denE φ)=fun e=>e.born==st:=by funext e;rfl
  rw [hf,hen];rfl
 refine ⟨?_,by simp only [Ok,OkA,OkL];exact ⟨(hes en hmem).1,(hes en hmem).2,trivial⟩⟩
 rw [hit]
 have hne:(clock != stepped)=false:=by simp [hcl]
 simp only [Instr.entry,Sem.run_bind,run_getObj h1 (by intro _ _ _ h;cases h),Result.andThen_ok,hback,run_getObj hm1 (by intro _ _ _ h;cases h),hne,Bool.false_eq_true,if_false,Sem.run_pure,hfind]
 simp [den,denA,denL,denE]
theorem cmpBytes_eq:∀(a b:List UInt8),cmpBytes a b=Lib.compareBytes a b
 | [],[]=>rfl
 | [],_::_=>rfl
 | _::_,[]=>rfl
 | a::x,b::y=>by
   simp only [cmpBytes,Lib.compareBytes,cmpBytes_eq x y]
   have h2:∀a b:UInt8,Nat.blt a.toNat b.toNat=decide (a<b):=fun a b=>by
    rw [Bool.eq_iff_iff]
    simp only [Nat.blt_eq,decide_eq_true_eq]
    exact UInt8.lt_iff_toNat_lt.symm
   rw [h2,h2]
   by_cases h:a<b
   · simp [h]
   · by_cases h':b<a
     · simp [h,h']
     · simp [h,h']
theorem run_loadBytes:∀(ns:List Int) (b o:Nat) (acc:ByteArray),(∀j n,ns[j]? =some n->w.cell? ⟨b,o+j,none⟩=some (.int .u8 n))->
 (Extern.Bytes.loadBytes ⟨b,o,none⟩ ns.length acc).run P w= .ok ⟨⟨acc.data.toList++ns.map fun n=>UInt8.ofNat n.toNat⟩⟩ w
 | [],b,o,acc,_=>by simp [Extern.Bytes.loadBytes]
 | n::r,b,o,acc,h=>by
   have h0:=h 0 n rfl
   simp only [List.length_cons,Extern.Bytes.loadBytes,Sem.run_bind,run_load]
   simp only [Nat.add_zero] at h0
   simp only [h0,Result.andThen_ok,addr_add]
   rw [run_loadBytes r b (o+1) _ (fun j m hj=>by rw [show o+1+j=o+(j+1) from by omega];exact h (j+1) m (by simpa using hj))]
   simp [ByteArray.push]
theorem bytesOf_sound (hr:Rel C φ D s.heap w) {x:Value} {n:Nat} {l:List Value} {bs:List UInt8} (hs:isSlV x=true) (hrd:rdSlice s 1 x=some (n,l)) (hb:bytesOfCells l=some bs):
 (Extern.Bytes.bytesOf (den φ x)).run P w= .ok ⟨⟨bs⟩⟩ w:=by
 obtain ⟨ns,rfl,rfl⟩:=bytesOf_cells hb
 cases x with
 | slice ad len cap=>
   cases ad with
   | none=>
     unfold rdSlice at hrd
     replace hrd:=bool_split hrd;rcases hrd with ⟨_,hrd⟩ | ⟨_,hrd⟩
     · simp only [Option.some.injEq,Prod.mk.injEq] at hrd
       have:ns=[]:=by
        have:=hrd.2
        cases ns with
        | nil=>rfl
        | cons a b=>simp at this
       subst this
       simp [den,Extern.Bytes.bytesOf]
       rfl
     · cases hrd
   | some ad=>
     obtain ⟨b,o,sp⟩:=ad
     cases sp with
     | some k=>
       unfold rdSlice at hrd
       simp only at hrd
       cases hb:Nat.beq len 0 with
       | false=>rw [hb] at hrd;cases hrd
       | true=>
         rw [hb] at hrd
         simp only [cond_true,Option.some.injEq,Prod.mk.injEq] at hrd
         have h0:=Nat.eq_of_beq_eq_true hb
         have hns:ns=[]:=by
          have:=congrArg List.length hrd.2
          simp at this
          exact List.length_eq_zero_iff.1 this.symm
         subst h0 hns
         simp only [den,Extern.Bytes.bytesOf]
         rfl
     | none=>
     unfold rdSlice at hrd
     simp only at hrd
     split at hrd
     case h_2=>cases hrd
     rename_i vs elem st par hbk
     split at hrd
     case h_2=>cases hrd
     rename_i l' hl
     simp only [Option.some.injEq,Prod.mk.injEq] at hrd
     obtain ⟨rfl,rfl⟩:=hrd
     obtain ⟨ho,c,el,fr,sz,h1,h2,h3,h4,h5⟩:=hr.blk b _ hbk
     rw [dropN_eq,Nat.mul_one] at hl
     obtain ⟨hlen,hl'⟩:=(takeN_some _ _ _).1 hl
     have hnl:ns.length=len:=by
      have:=congrArg List.length hl'
      simp at this hlen
      omega
     rw [den_slice]
     simp only [Extern.Bytes.bytesOf]
     have:=run_loadBytes (P:=P) (w:=w) ns (φ b).block ((φ b).off+o) ByteArray.empty (fun j n hj=>by
      rw [cell_of h1]
      have hj':(ns.map (Value.int .u8))[j]? =some (.int .u8 n):=by simp [hj]
      have hjl:=(List.getElem?_eq_some_iff.1 hj).1
      rw [hl',List.getElem?_take_of_lt (by omega),List.getElem?_drop] at hj'
      have:=h4 _ _ hj'
      rw [Nat.add_assoc,this]
      simp [den])
     rw [hnl] at this
     rw [this]
     simp
 | _=>simp [isSlV] at hs
theorem row_next:Extern.allNextRows.lookup "internal/bytealg.Compare" =none/\Extern.allNextRows.lookup "internal/bytealg.IndexByte" =none/\Extern.allNextRows.lookup "internal/bytealg.IndexByteString" =none/\
 Extern.allNextRows.lookup "internal/abi.NoEscape" =none/\Extern.allNextRows.lookup "" =none:=⟨by kernel_rfl,by kernel_rfl,by kernel_rfl,by kernel_rfl,by kernel_rfl⟩
theorem row_generic:Extern.allGenericRows.lookup "internal/bytealg.Compare" =none/\Extern.allGenericRows.lookup "internal/bytealg.IndexByte" =none/\Extern.allGenericRows.lookup "internal/bytealg.IndexByteString" =none/\
 Extern.allGenericRows.lookup "internal/abi.NoEscape" =none:=⟨by kernel_rfl,by kernel_rfl,by kernel_rfl,by kernel_rfl⟩
theorem row_typed:Extern.allTypedRows.lookup "internal/bytealg.Compare" =none/\Extern.allTypedRows.lookup "internal/bytealg.IndexByte" =none/\Extern.allTypedRows.lookup "internal/bytealg.IndexByteString" =none/\
 Extern.allTypedRows.lookup "internal/abi.NoEscape" =none:=⟨by kernel_rfl,by kernel_rfl,by kernel_rfl,by kernel_rfl⟩
theorem row_rows:Extern.allRows.lookup "internal/bytealg.Compare" =some Extern.BytealgCompare.compare/\Extern.allRows.lookup "internal/bytealg.IndexByte" =some Extern.BytealgIndexByte.indexByte/\
 Extern.allRows.lookup "internal/bytealg.IndexByteString" =some Extern.BytealgIndexByte.indexByte/\Extern.allRows.lookup "internal/abi.NoEscape" =some Extern.AbiNoEscape.same:=⟨by kernel_rfl,by kernel_rfl,by kernel_rfl,by kernel_rfl⟩
theorem row_find {fn:Func} (ho:fn.origin= "") {n:String} (hn:fn.name=n) {e:Array Value->Sem Value} (h1:Extern.allNextRows.lookup n=none) (h2:Extern.allGenericRows.lookup n=none)
 (h3:Extern.allTypedRows.lookup n=none) (h4:Extern.allRows.lookup n=some e):Extern.findNext fn=none/\Extern.find fn=some e:=by
 constructor
 · unfold Extern.findNext
   simp only [hn,ho,h1,row_next.2.2.2.2]
   rfl
 · unfold Extern.find
   simp only [hn,ho,h2,h3,h4]
   rfl
theorem bytesA_sound (hr:Rel C φ D s.heap w) {x:Value} {bs:List UInt8} (h:bytesA s x=some bs):(Extern.Bytes.bytesOf (den φ x)).run P w= .ok ⟨⟨bs⟩⟩ w:=by
 unfold bytesA at h
 split at h
 · rename_i b
   cases h
   simp only [den,Extern.Bytes.bytesOf,Sem.run_pure]
 · rename_i x hx
   replace h:=bool_split h;rcases h with ⟨hs,h⟩ | ⟨_,h⟩
   case inr=>cases h
   split at h
   case h_2=>cases h
   rename_i n l hrd
   exact bytesOf_sound hr hs hrd h
theorem indexByte_find (c:Nat) (hc:c<256):∀(l pre:List UInt8),
 (match (List.range' pre.length l.length).find? (fun i=>(ByteArray.mk ⟨pre++l⟩)[i]! ==UInt8.ofNat c) with
   | some i=>(i:Int)
   | none=> -1)=indexByteA c l pre.length
 | [],pre=>by simp [indexByteA]
 | b::r,pre=>by
   have hsz:(ByteArray.mk ⟨pre++b::r⟩).size=(pre++b::r).length:=rfl
   have hg:(ByteArray.mk ⟨pre++b::r⟩)[pre.length]! =b:=by
    rw [getElem!_pos _ _ (by rw [hsz];simp)]
    show (pre++b::r)[pre.length]'(by simp)=b
    simp
   simp only [List.length_cons,List.range'_succ,List.find?_cons,hg]
   have e:(b==UInt8.ofNat c)=Nat.beq b.toNat c:=by
    cases h:Nat.beq b.toNat c with
    | true=>rw [<-Nat.eq_of_beq_eq_true h];simp
    | false=>
      have:=Nat.ne_of_beq_eq_false h
      rw [beq_eq_false_iff_ne]
      intro e;apply this;rw [e];simp;omega
   rw [e]
   unfold indexByteA
   cases Nat.beq b.toNat c with
   | true=>rfl
   | false=>
     have:=indexByte_find c hc r (pre++[b])
     simp only [List.length_append,List.length_cons,List.length_nil,List.append_assoc,List.singleton_append] at this
     simpa using this
theorem indexByte_sound (hr:Rel C φ D s.heap w) {a b:Value} {l:List UInt8} {c:Nat} (h1:bytesA s a=some l) (h2:byteA b=some c):
 (Extern.BytealgIndexByte.indexByte (denL φ [a,b]).toArray).run P w= .ok (den φ (.int .i64 (indexByteA c l 0))) w:=by
 unfold byteA at h2
 split at h2
 case h_2=>cases h2
 rename_i m
 replace h2:=bool_split h2;rcases h2 with ⟨hc,h2⟩ | ⟨_,h2⟩
 case inr=>cases h2
 cases h2
 rw [blt_iff] at hc
 have hb:(Extern.Bytes.asByte (den φ (.int .u8 (Int.ofNat c)))).run P w= .ok (UInt8.ofNat c) w:=by
  simp [den,Extern.Bytes.asByte]
 have hf:=indexByte_find c hc l []
 simp only [List.nil_append,List.length_nil] at hf
 change Sem.run P (do
  let b <-Extern.Bytes.bytesOf (den φ a)
  let c <-Extern.Bytes.asByte (den φ (.int .u8 (Int.ofNat c)))
  match (List.range b.size).find? fun i=>b[i]! ==c with
  | some i=>pure (goInt i)
  | none=>pure (goInt (-1))) w=_
 simp only [Sem.run_bind,bytesA_sound hr h1,hb,Result.andThen_ok]
 have hsz:(ByteArray.mk ⟨l⟩).size=l.length:=rfl
 rw [<-hf,List.range_eq_range',hsz]
 cases (List.range' 0 l.length).find? (fun i=>(ByteArray.mk ⟨l⟩)[i]! ==UInt8.ofNat c) with
 | some i=>simp [goInt,den]
 | none=>simp [goInt,den]
theorem countA_count (c:Nat) (hc:c<256):∀(l:List UInt8) (n:Nat),countA c l n=n+Lib.countByte l (UInt8.ofNat c)
 | [],n=>by simp [countA,Lib.countByte]
 | b::r,n=>by
   have e:(b==UInt8.ofNat c)=Nat.beq b.toNat c:=by
    cases h:Nat.beq b.toNat c with
    | true=>rw [<-Nat.eq_of_beq_eq_true h];simp
    | false=>
      have:=Nat.ne_of_beq_eq_false h
      rw [beq_eq_false_iff_ne]
      intro e;apply this;rw [e];simp;omega
   unfold countA
   rw [countA_count c hc r]
   unfold Lib.countByte
   rw [List.count_cons,e]
   cases Nat.beq b.toNat c<;>simp<;>omega
theorem count_rows:Extern.allNextRows.lookup "internal/bytealg.Count" =none/\Extern.allNextRows.lookup "internal/bytealg.CountString" =none/\Extern.allGenericRows.lookup "internal/bytealg.Count" =none/\
 Extern.allGenericRows.lookup "internal/bytealg.CountString" =none/\Extern.allTypedRows.lookup "internal/bytealg.Count" =none/\Extern.allTypedRows.lookup "internal/bytealg.CountString" =none/\
 Extern.allRows.lookup "internal/bytealg.Count" =some Extern.BytealgCount.count/\Extern.allRows.lookup "internal/bytealg.CountString" =some Extern.BytealgCount.count:=
 ⟨by kernel_rfl,by kernel_rfl,by kernel_rfl,by kernel_rfl,by kernel_rfl,by kernel_rfl,by kernel_rfl,by kernel_rfl⟩
theorem count_sound (hr:Rel C φ D s.heap w) {a b:Value} {l:List UInt8} {c:Nat} (h1:bytesA s a=some l) (h2:byteA b=some c):
 (Extern.BytealgCount.count (denL φ [a,b]).toArray).run P w= .ok (den φ (.int .i64 (Int.ofNat (countA c l 0)))) w:=by
 unfold byteA at h2
 split at h2
 case h_2=>cases h2
 rename_i m
 replace h2:=bool_split h2;rcases h2 with ⟨hc,h2⟩ | ⟨_,h2⟩
 case inr=>cases h2
 cases h2
 rw [blt_iff] at hc
 have hb:(Extern.Bytes.asByte (den φ (.int .u8 (Int.ofNat c)))).run P w= .ok (UInt8.ofNat c) w:=by
  simp [den,Extern.Bytes.asByte]
 change Sem.run P (do
  let b <-Extern.Bytes.bytesOf (den φ a)
  let c <-Extern.Bytes.asByte (den φ (.int .u8 (Int.ofNat c)))
  pure (goInt (b.foldl (fun n x=>if x==c then n+1 else n) (0:Nat)))) w=_
 simp only [Sem.run_bind,bytesA_sound hr h1,hb,Result.andThen_ok,Sem.run_pure]
 rw [Lib.foldl_data,Lib.count_foldl,countA_count c hc]
 simp [goInt,den]
theorem extern_sound (hr:Rel C φ D s.heap w) {fn:Func} {args:List Value} {v:Value} (hok:OkL D args) (h:externV s fn.name fn.origin args=some v):
 ∃e,Extern.findNext fn=none/\Extern.find fn=some e/\(e (denL φ args).toArray).run P w= .ok (den φ v) w/\Ok D v/\(fn.name== "runtime.NumGoroutine")=false:=by
 unfold externV at h
 replace h:=bool_split h;rcases h with ⟨ho,h⟩ | ⟨_,h⟩
 case inr=>cases h
 rw [beq_iff_eq] at ho
 replace h:=bool_split h;rcases h with ⟨hn,h⟩ | ⟨_,h⟩
 · rw [beq_iff_eq] at hn
   obtain ⟨f1,f2⟩:=row_find ho hn row_next.2.2.2.1 row_generic.2.2.2 row_typed.2.2.2 row_rows.2.2.2
   split at h
   case h_2=>cases h
   cases h
   exact ⟨_,f1,f2,rfl,hok.1,by rw [hn];rfl⟩
 replace h:=bool_split h;rcases h with ⟨hn,h⟩ | ⟨_,h⟩
 · split at h
   case h_2=>cases h
   split at h
   case h_2=>cases h
   rename_i hl hc
   cases h
   have hs:=indexByte_sound (P:=P) hr hl hc
   rw [Bool.or_eq_true,beq_iff_eq,beq_iff_eq] at hn
   rcases hn with hn | hn
   · obtain ⟨f1,f2⟩:=row_find ho hn row_next.2.1 row_generic.2.1 row_typed.2.1 row_rows.2.1
     exact ⟨_,f1,f2,hs,by simp [Ok],by rw [hn];rfl⟩
   · obtain ⟨f1,f2⟩:=row_find ho hn row_next.2.2.1 row_generic.2.2.1 row_typed.2.2.1 row_rows.2.2.1
     exact ⟨_,f1,f2,hs,by simp [Ok],by rw [hn];rfl⟩
 replace h:=bool_split h;rcases h with ⟨hn,h⟩ | ⟨_,h⟩
 · split at h
   case h_2=>cases h
   split at h
   case h_2=>cases h
   rename_i hl hc
   cases h
   have hs:=count_sound (P:=P) hr hl hc
   obtain ⟨c1,c2,c3,c4,c5,c6,c7,c8⟩:=count_rows
   rw [Bool.or_eq_true,beq_iff_eq,beq_iff_eq] at hn
   rcases hn with hn | hn
   · obtain ⟨f1,f2⟩:=row_find ho hn c1 c3 c5 c7
     exact ⟨_,f1,f2,hs,by simp [Ok],by rw [hn];rfl⟩
   · obtain ⟨f1,f2⟩:=row_find ho hn c2 c4 c6 c8
     exact ⟨_,f1,f2,hs,by simp [Ok],by rw [hn];rfl⟩
 replace h:=bool_split h;rcases h with ⟨hn,h⟩ | ⟨_,h⟩
 case inr=>cases h
 rw [beq_iff_eq] at hn
 split at h
 case h_2=>cases h
 rename_i x y
 replace h:=bool_split h;rcases h with ⟨hc,h⟩ | ⟨_,h⟩
 case inr=>cases h
 rw [Bool.and_eq_true] at hc
 obtain ⟨hx,hy⟩:=hc
 split at h
 case h_2=>cases h
 rename_i n1 l1 n2 l2 hr1 hr2
 split at h
 case h_2=>cases h
 rename_i b1 b2 hb1 hb2
 cases h
 obtain ⟨f1,f2⟩:=row_find ho hn row_next.1 row_generic.1 row_typed.1 row_rows.1
 refine ⟨_,f1,f2, ?_,by simp [Ok],by rw [hn];rfl⟩
 change Sem.run P (do pure (goInt (Extern.BytealgCompare.cmp (<-Extern.Bytes.bytesOf (den φ x)) (<-Extern.Bytes.bytesOf (den φ y))))) w=_
 simp only [Sem.run_bind,bytesOf_sound hr hx hr1 hb1,bytesOf_sound hr hy hr2 hb2,Result.andThen_ok,Sem.run_pure,Lib.cmp_eq,<-cmpBytes_eq,goInt,den]
theorem nozero_next:Extern.allNextRows.lookup "internal/bytealg.MakeNoZero" =none:=by kernel_rfl
theorem nozero_generic:Extern.allGenericRows.lookup "internal/bytealg.MakeNoZero" =none:=by kernel_rfl
theorem nozero_typed:Extern.allTypedRows.lookup "internal/bytealg.MakeNoZero" =some Extern.BytealgMakeNoZero.makeNoZero:=by kernel_rfl
theorem makeNoZero_sound (hC:CxOk C P) (hr:Rel C φ D s.heap w) (hnD:¬D s.next) {f:FuncId} {fn:Func} {args:List Value} (hf:P.funcs[f]? =some fn) (hb:fn.body=none):
 OpOk C φ D s w (makeNoZeroA C fn args s) ((callFunc f (denL φ args).toArray).run P w):=by
 generalize hg:makeNoZeroA C fn args s=res
 unfold makeNoZeroA at hg
 replace hg:=bool_split hg;rcases hg with ⟨hc,hg⟩ | ⟨_,hg⟩
 case inr=>subst hg;trivial
 simp only [Bool.and_eq_true,beq_iff_eq] at hc
 obtain ⟨ho,hn⟩:=hc
 split at hg
 case h_2=>subst hg;trivial
 rename_i n t hrt
 split at hg
 case h_2=>subst hg;trivial
 rename_i elem hu
 split at hg
 case h_2=>subst hg;trivial
 rename_i hsz
 replace hg:=bool_split hg;rcases hg with ⟨hle,hg⟩ | ⟨_,hg⟩
 case inr=>subst hg;trivial
 rw [ble_iff] at hle
 subst hg
 obtain ⟨cs,hrun,hcs,_⟩:=Lib.run_makeNoZero (P:=P) w fn.params t elem (und_of hC hu) n hle
 have h1:Extern.findNext fn=none:=by
  unfold Extern.findNext
  simp only [hn,ho,nozero_next,row_next.2.2.2.2]
  rfl
 have h2:Extern.find fn=some (Extern.BytealgMakeNoZero.makeNoZero fn.params fn.resultTypes):=by
  unfold Extern.find
  simp only [hn,ho,nozero_generic,nozero_typed]
  rfl
 have hname:(fn.name== "runtime.NumGoroutine")=false:=by rw [hn];rfl
 have hrt':fn.resultTypes= #[t]:=by
  apply Array.ext'
  simpa using hrt
 refine After.cells (w':=w.drew.drew.alloc (.cells cs elem)) (c:=cs) (fr:=(0,0)) (sl:=cs.size) (sz:=1) hr hnD rfl rfl rfl rfl (vs:=[]) (by simp [OkL]) hsz (by simp) (fun j v hj=>by simp at hj) (.inl rfl) ?_
 refine ⟨.value (.slice (some ⟨w.heap.size,0,none⟩) n cs.size), ?_,ok_newSlice _ _ _ _, ?_⟩
 · have:(denL φ [.int .i64 (Int.ofNat n)]).toArray= #[.int .i64 n]:=by simp [denL,den]
   rw [this]
   simp only [callFunc,Sem.run_bind,run_program,Result.andThen_ok,hf,hname,Bool.false_eq_true,if_false,hb,Option.isNone_none,if_true,run_mark,h1,h2,hrt',hrun,Sem.run_pure]
 · have:=den_newSlice φ s.next w.heap.size cs.size n 0
   simp only [Nat.mul_zero,Nat.zero_add] at this
   exact this.symm
theorem callFunc_sound (hC:CxOk C P) (hr:Rel C φ D s.heap w) (hnD:¬D s.next) {f:FuncId} {args:List Value} (hok:OkL D args):
 OpOk C φ D s w (callFuncA C f args s) ((callFunc f (denL φ args).toArray).run P w):=by
 unfold callFuncA
 split
 case h_2=>trivial
 rename_i fn hfn
 have hf:=hC.func f fn hfn
 split
 · rename_i c hb
   refine After.same hr ⟨.enter f (denL φ args).toArray, ?_,rfl,hok,rfl⟩
   have hname:=hC.name f fn hfn (by simp [hb])
   simp only [callFunc,Sem.run_bind,run_program,Result.andThen_ok,hf,hname,Bool.false_eq_true,if_false,hb,Option.isNone_some,Sem.run_pure]
 · rename_i hb
   cases hmz:fn.name== "internal/bytealg.MakeNoZero" with
   | true=>exact makeNoZero_sound hC hr hnD hf hb
   | false=>
   simp only [cond_false]
   unfold externA ovalue
   split
   case h_2=>trivial
   rename_i v hx
   obtain ⟨e,h1,h2,h3,h4,hname⟩:=extern_sound (P:=P) hr hok hx
   refine .ok_value hr ?_ h4
   simp only [callFunc,Sem.run_bind,run_program,Result.andThen_ok,hf,hname,Bool.false_eq_true,if_false,hb,Option.isNone_none,if_true,run_mark,h1,h2,h3,Sem.run_pure]
end
end Go.Eng
namespace Go.Eng
section
variable {C:Cx} {P:Program} {φ:Phi} {D:Nat->Prop} {s:St} {w:World} {e:E} {a:Act}
theorem denD_args (φ:Phi) (d:Deferred):(denD φ d).args=(denL φ d.args.toList).toArray:=by simp [denD,denA_list]
theorem resolve_sound (hC:CxOk C P) (hr:Rel C φ D s.heap w) (he:ERel φ D e a) {c:Call} {t:TypeId} {d:Deferred} (h:resolveA C e c t=some d):
 (resolve a.eval c t).run P w= .ok (denD φ d) w/\OkD D d:=by
 unfold resolveA at h
 split at h
 case h_2=>cases h
 rename_i args ha
 obtain ⟨h1,h2⟩:=evals_sound hC hr he ha
 have hargs:c.args.map a.eval=(denL φ args).toArray:=by
  apply Array.toList_inj.1;rw [Array.toList_map,h1]
 unfold resolve
 split at h
 · rename_i b hb
   cases h
   simp only [hb,hargs,Sem.run_pure,denD,denTarget,denA]
   refine ⟨?_,trivial,h2⟩
   congr 3
 · rename_i r name hb
   split at h
   case h_2=>cases h
   rename_i v hv
   cases h
   have hv':=eval_sound hC hr he hv
   simp only [hb,hargs,Sem.run_pure,denD,denTarget,denA,denFn,denL,hv'.1]
   refine ⟨?_,⟨trivial,trivial⟩,hv'.2,h2⟩
   congr 2
   simp
 · rename_i f hb
   split at h
   case h_2=>cases h
   rename_i v hv
   have hv':=eval_sound hC hr he hv
   unfold ofValueA at h
   split at h
   · rename_i fn first cap
     cases h
     have hk:=hv'.2
     simp only [Ok] at hk
     simp only [hb,hargs,hv'.1,den,Deferred.ofValue,Sem.run_pure,denD,denTarget,denA]
     refine ⟨?_,⟨hk.1,hk.2.2⟩, ?_⟩
     · congr 2
       rw [denA_list,denL_map,denL_map,denL_map]
       simp
     · simp only [OkA]
       rw [OkA_iff] at hk
       rw [OkL_iff] at h2 ⊢
       intro x hx
       rcases List.mem_append.1 hx with hx | hx
       · exact hk.2.1 x hx
       · exact h2 x hx
   · cases h
     simp only [hb,hargs,hv'.1,den,Deferred.ofValue,Sem.run_pure,denD,denTarget,denA]
     exact ⟨trivial,trivial,h2⟩
   · cases h
theorem panicA_sound (hr:Rel C φ D s.heap w) {x:Value} (hx:Ok D x):OpOk C φ D s w (panicA x s) ((do pure (.value (<-Instr.panic (den φ x))):Sem Next).run P w):=by
 unfold panicA
 split
 · rename_i t v
   refine After.same hr ⟨?_,hx⟩
   simp [den,Instr.panic]
 · trivial
theorem okL_args {d:Deferred} (h:OkD D d):OkL D d.args.toList:=by
 have:=h.2
 rw [OkA_iff] at this
 rw [OkL_iff];exact this
theorem cap_sound (hC:CxOk C P) {argTypes:Array TypeId} {type:TypeId} {args:List Value} {v:Value} (h:capA C argTypes.toList args=some v):
 (Builtin.cap_ argTypes type (denL φ args).toArray).run P w= .ok (den φ v) w/\Ok D v:=by
 unfold capA at h
 split at h
 case h_2=>cases h
 rename_i t rt x rx hat
 have at0:argTypes[0]? =some t:=by rw [<-Array.getElem?_toList,hat];rfl
 have av0:(denL φ (x::rx)).toArray[0]? =some (den φ x):=by simp [denL]
 unfold Builtin.cap_
 simp only [at0,av0,Sem.run_bind]
 split at h
 · rename_i n el hu
   cases h
   simp only [run_und hC hu,Result.andThen_ok,den,Sem.run_pure,goInt,Ok];exact ⟨trivial,trivial⟩
 · rename_i el n cap hu
   cases h
   simp only [run_und hC hu,Result.andThen_ok,den,Sem.run_pure,goInt,Ok];exact ⟨trivial,trivial⟩
 · rename_i el ad n cap hu
   cases ho:opn cap with
   | true=>rw [ho] at h;cases h
   | false=>
     rw [ho] at h
     simp only [cond_false,Option.some.injEq] at h
     subst h
     have hr:cap/2+cap%2*(φ ad.block).slack=capOf cap:=by
      unfold opn at ho
      have:cap%2≠1:=by intro e;rw [e] at ho;simp at ho
      have:cap%2=0:=by omega
      rw [this];simp [capOf]
     simp only [run_und hC hu,Result.andThen_ok,den,hr,Sem.run_pure,goInt,Ok];exact ⟨trivial,trivial⟩
 · cases h
theorem sliceData_sound {argTypes:Array TypeId} {type:TypeId} {args:List Value} {v:Value} (hok:OkL D args) (h:sliceDataA args=some v):
 (Builtin.unsafeSliceData_ argTypes type (denL φ args).toArray).run P w= .ok (den φ v) w/\Ok D v:=by
 unfold sliceDataA at h
 split at h
 · cases h
   exact ⟨rfl,by simp [Ok]⟩
 · rename_i b o l c
   split at h
   case h_2=>cases h
   rename_i k hk
   cases h
   have ha:=hok.1
   simp only [Ok] at ha ⊢
   refine ⟨?_,ha⟩
   have:(denL φ [.slice (some ⟨b,o,none⟩) l c]).toArray= #[.slice (some ⟨(φ b).block,(φ b).off+o,none⟩) l (c/2+c%2*(φ b).slack)]:=by simp [denL,den]
   rw [this]
   simp only [den]
   refine Lib.run_unsafeSliceData_row (P:=P) w argTypes type _ l _ ?_
   unfold capOf at hk
   omega
 · cases h
theorem run_loadBytesL:∀(ns:List Int) (b o:Nat) (acc:ByteArray),(∀j n,ns[j]? =some n->w.cell? ⟨b,o+j,none⟩=some (.int .u8 n))->
 (loadBytes ⟨b,o,none⟩ acc ns.length).run P w= .ok ⟨⟨acc.data.toList++ns.map fun n=>UInt8.ofNat n.toNat⟩⟩ w
 | [],b,o,acc,_=>by simp [loadBytes]
 | n::r,b,o,acc,h=>by
   have h0:=h 0 n rfl
   simp only [List.length_cons,loadBytes,Sem.run_bind,run_load]
   simp only [Nat.add_zero] at h0
   simp only [h0,Result.andThen_ok,addr_add]
   rw [run_loadBytesL r b (o+1) _ (fun j m hj=>by rw [show o+1+j=o+(j+1) from by omega];exact h (j+1) m (by simpa using hj))]
   simp [ByteArray.push]
theorem freeze_any {w:World} {b o n:Nat} {c:Array Value} {elem:TypeId} {fr:Nat×Nat} (h:w.heap[b]? =some (.cells c elem fr)) (hn:n≠0):
 ∃fr',w.freeze ⟨b,o,none⟩ n=setB w b (.cells c elem fr'):=by
 obtain ⟨lo,hi⟩:=fr
 refine ⟨if lo==hi then (o,o+n) else (min lo o,max hi (o+n)), ?_⟩
 unfold World.freeze
 simp only [hn,if_false]
 refine world_ext ?_ rfl rfl rfl rfl
 apply Array.ext_getElem?
 intro k
 by_cases hk:k=b
 · subst hk
   rw [setB_same (heap_lt h)]
   simp [Array.getElem?_modify,h]
 · rw [setB_other hk]
   simp only [Array.getElem?_modify]
   rw [if_neg (by omega)]
theorem unsafeString_sound (hC:CxOk C P) (hr:Rel C φ D s.heap w) {argTypes:Array TypeId} {type:TypeId} {args:List Value}:
 OpOk C φ D s w (unsafeStringA C argTypes.toList args s) ((do pure (.value (<-Builtin.unsafeString_ argTypes type (denL φ args).toArray)):Sem Next).run P w):=by
 generalize hg:unsafeStringA C argTypes.toList args s=res
 unfold unsafeStringA at hg
 split at hg
 case h_2=>subst hg;trivial
 rename_i pt it p n hat
 have hat':argTypes= #[pt,it]:=by apply Array.ext';simpa using hat
 subst hat'
 split at hg
 · subst hg
   refine .ok_value hr ?_ (by simp [Ok])
   have:∃q,(denL φ [.pointer p,.int .i64 (Int.ofNat 0)]).toArray= #[.pointer q,.int .i64 0]:=by
    cases p<;>exact ⟨_,rfl⟩
   obtain ⟨q,hq⟩:=this
   rw [hq]
   simp only [Sem.run_bind,Lib.run_unsafeString_none (P:=P) w pt it type q,Result.andThen_ok,Sem.run_pure,den]
   rfl
 · rename_i n
   split at hg
   case h_2=>subst hg;trivial
   rename_i b o elem hu
   split at hg
   case h_2=>subst hg;trivial
   rename_i vs e par hsz hb
   replace hg:=bool_split hg;rcases hg with ⟨hc,hg⟩ | ⟨_,hg⟩
   case inr=>subst hg;trivial
   simp only [Bool.and_eq_true,beq_iff,ble_iff,Bool.not_eq_true'] at hc
   obtain ⟨⟨he,hle⟩,hpi⟩:=hc
   subst he
   split at hg
   case h_2=>subst hg;trivial
   rename_i l hl
   split at hg
   case h_2=>subst hg;trivial
   rename_i bs hbs
   subst hg
   have hparid:par≠some b:=by rintro rfl;simp [parIs] at hpi
   obtain ⟨ho,c,el,fr,sz,h1,h2,h3,h4,h5⟩:=hr.blk b _ hb
   obtain ⟨hel,h5,h6⟩:=h5 (by omega)
   rw [hel] at h1
   obtain ⟨i,hi,hin⟩:=info_size hC hsz
   obtain ⟨ns,rfl,rfl⟩:=bytesOf_cells hbs
   rw [dropN_eq] at hl
   obtain ⟨hlen,hl'⟩:=(takeN_some _ _ _).1 hl
   have hnl:ns.length=n+1:=by
    have:=congrArg List.length hl'
    rw [List.length_map,List.length_take,Nat.min_eq_left hlen] at this
    exact this
   rw [List.length_drop] at hlen
   have hcells:P.cellsOf e=1:=by simp [Program.cellsOf,hi,hin]
   have hlies:liesAt P P.depth e (c.size/P.cellsOf e) ((φ b).off+o) e (n+1)=true:=by
    rw [hcells]
    exact lies_row hcells (by omega) (Nat.mod_one _) (by simp;omega)
   have hload:=run_loadBytesL (P:=P) (w:=w) ns (φ b).block ((φ b).off+o) ByteArray.empty (fun j m hj=>by
    rw [cell_of h1]
    have hj':(ns.map (Value.int .u8))[j]? =some (.int .u8 m):=by simp [hj]
    have hjl:=(List.getElem?_eq_some_iff.1 hj).1
    rw [hl',List.getElem?_take_of_lt (by omega),List.getElem?_drop] at hj'
    have:=h4 _ _ hj'
    rw [Nat.add_assoc,this]
    simp [den])
   rw [hnl] at hload
   obtain ⟨fr',hfz⟩:=freeze_any (o:=(φ b).off+o) (n:=n+1) h1 (by omega)
   have hk:=killPar_rel hr par
   have hke:=killPar_ext (φ:=φ) (D:=D) (w:=w) s par
   have hb2:(killPar s par).heap.get b=some (.cells vs e 0 par):=by
    cases par with
    | none=>exact hb
    | some q=>
      simp only [killPar]
      rw [T.get_del,if_neg (fun e=>hparid (by rw [e])),hb]
   have hwrite:=hk.write (w':=setB w (φ b).block (.cells c e fr')) (b':= .cells vs e 2 none) hb2 rfl
    (by
      intro q hq
      simp only [parOf] at hq
      subst hq
      simp [killPar,T.get_del])
    (by intro q hq;simp [parOf] at hq) (setB_size ..) (fun k hk'=>setB_other hk') rfl rfl rfl
    ⟨ho,c,_,fr',sz,setB_same (heap_lt h1),h2,h3,h4,fun h=>by omega⟩
   refine ⟨φ,D,_,hwrite.1,hke.trans hwrite.2,.inl ⟨rfl,rfl⟩,.value (.string ⟨⟨ns.map fun n=>UInt8.ofNat n.toNat⟩⟩), ?_,by simp [Ok],by simp [den]⟩
   have hargs:(denL φ [.pointer (some ⟨b,o,none⟩),.int .i64 (Int.ofNat (n+1))]).toArray= #[.pointer (some ⟨(φ b).block,(φ b).off+o,none⟩),.int .i64 ((n+1:Nat):Int)]:=by simp [denL,den]
   rw [hargs]
   have hdef:Builtin.unsafeString_ #[pt,it] type #[.pointer (some ⟨(φ b).block,(φ b).off+o,none⟩),.int .i64 ((n+1:Nat):Int)]=
    (do
      let n <-asInt (.int .i64 ((n+1:Nat):Int))
      if n<0 then runtimePanic (.error "unsafe.String: len out of range")
      if n>IntKind.i64.max then unsupported (.unsafePointer "String: a length above the largest int")
      if n=0 then pure (.string .empty)
      else if <-variablesAt ⟨(φ b).block,(φ b).off+o,none⟩ (<-elemOf pt) n.toNat then do
       let s <-loadBytes ⟨(φ b).block,(φ b).off+o,none⟩ .empty n.toNat
       freeze ⟨(φ b).block,(φ b).off+o,none⟩ n.toNat
       pure (.string s)
      else unsupported (.unsafePointer "String: not so many bytes at ptr")):=rfl
   rw [hdef]
   have hmax:IntKind.i64.max=9223372036854775807:=rfl
   have hneg:¬((n+1:Nat):Int)<0:=by omega
   have h63:¬(9223372036854775807:Int)<((n+1:Nat):Int):=by omega
   have hz:¬((n+1:Nat):Int)=0:=by omega
   have hsh:w.shape? (φ b).block=some (e,c.size):=by simp [World.shape?,h1]
   simp only [Sem.run_bind,asInt,asIntOf,Sem.run_pure,Result.andThen_ok,hmax,if_neg hneg,if_neg hz,gt_iff_lt,if_neg h63,elemOf,run_underlying (und_of hC hu),variablesAt,run_program,run_shape,hsh,hlies,if_true,Int.toNat_natCast,hload,run_freeze,hfz]
   simp
theorem builtin_sound (hC:CxOk C P) (hr:Rel C φ D s.heap w) (hn:¬D s.next) {b:Builtin} {argTypes:Array TypeId} {type:TypeId} {consts:Array Bool} {args:List Value} (hok:OkL D args):
 OpOk C φ D s w (builtinA C b argTypes.toList args s) ((builtin b argTypes type consts (denL φ args).toArray).run P w):=by
 have h1:=(OkL_iff D args).1 hok
 cases b<;>simp only [builtinA,builtinSel]<;>first
  | trivial
  | exact append_sound hC hr hn hok
  | exact copy_sound hC hr hok
  | exact delete_sound hC hr hok
  | exact unsafeString_sound hC hr
  | exact clear_sound hC hr
  | exact .value hr fun v hv=>by
     have:=cap_sound (type:=type) (φ:=φ) (D:=D) (w:=w) (P:=P) hC hv
     exact ⟨by simp [builtin,this.1],this.2⟩
  | exact .value hr fun v hv=>by
     have:=sliceData_sound (P:=P) (w:=w) (φ:=φ) (argTypes:=argTypes) (type:=type) hok hv
     exact ⟨by simp [builtin,this.1],this.2⟩
  | exact .value hr fun v hv=>by
     have:=len_sound (type:=type) hC hr hv
     exact ⟨by simp [builtin,this.1],this.2⟩
  | skip
 case max=>
  split
  · rename_i x r
    refine .value hr fun v hv=> ?_
    have:=fold_sound (P:=P) (φ:=φ) (D:=D) (w:=w) (fun x y v h=>max2_sound h) (h1 x (List.mem_cons_self ..)) hv
    refine ⟨?_,this.2⟩
    simp only [builtin,Builtin.max_,denL,Sem.run_bind,this.1,Result.andThen_ok,Sem.run_pure]
  · trivial
 case min=>
  split
  · rename_i x r
    refine .value hr fun v hv=> ?_
    have:=fold_sound (P:=P) (φ:=φ) (D:=D) (w:=w) (fun x y v h=>min2_sound h) (h1 x (List.mem_cons_self ..)) hv
    refine ⟨?_,this.2⟩
    simp only [builtin,Builtin.min_,denL,Sem.run_bind,this.1,Result.andThen_ok,Sem.run_pure]
  · trivial
 case panic=>
  split
  · rename_i x
    exact panicA_sound hr (h1 x (List.mem_cons_self ..))
  · trivial
 case recover=>exact After.same hr ⟨.recover,rfl,trivial⟩
theorem method_sound (hC:CxOk C P) {t:TypeId} {v recv:Value} {name:String} {f:FuncId} (h:methodA C t v name=some (f,recv)) (hv:Ok D v) (n:Nat):
 (method (n+1) t (den φ v) name).run P w= .ok (f,den φ recv) w/\Ok D recv:=by
 unfold methodA at h
 split at h
 case h_2=>cases h
 rename_i i hi
 split at h
 case h_2=>cases h
 rename_i m hm
 have hm':i.methods.find? (·.name==name)=some m:=by
  rw [<-Array.find?_toList];exact hm
 unfold method
 simp only [Sem.run_bind,run_info hC hi,Result.andThen_ok,hm']
 split at h
 · rename_i f' hp hf
   split at h
   case h_2=>cases h
   rename_i el hu
   cases h
   refine ⟨?_,hv⟩
   simp only [hp,follow,Sem.run_bind,Sem.run_pure,Result.andThen_ok,hf,receiverAt,run_und hC hu,Place.get]
 · rename_i f' hp hf
   split at h
   · cases h
   · rename_i d hno hu
     cases h
     refine ⟨?_,hv⟩
     simp only [hp,follow,Sem.run_bind,Sem.run_pure,Result.andThen_ok,hf,receiverAt,run_und hC hu]
     cases d<;>first
      | exact absurd hu (hno _)
      | simp [Place.get]
   · cases h
 · cases h
theorem allLt_mem {n:Nat}:∀{l:List Nat},allLt n l=true->∀p∈l,p<n
 | [],_,p,hp=>by cases hp
 | q::r,h,p,hp=>by
   simp only [allLt,Bool.and_eq_true,blt_iff] at h
   rcases List.mem_cons.1 hp with rfl | hp
   · exact h.1
   · exact allLt_mem h.2 p hp
theorem params_rel:∀(ps:List Nat) (vs:List Value) (T0:T Value) (n:Nat) (tm:Array Value),(∀p∈ps,p<n)->OkL D vs->TRel φ D T0 n tm->
 TRel φ D (paramsT ps vs T0) n ((ps.zip (denL φ vs)).foldl (fun tmps (p:Nat×Value)=>tmps.setIfInBounds p.1 p.2) tm)
 | [],vs,T0,n,tm,_,_,h=>by cases vs<;>exact h
 | p::ps,[],T0,n,tm,_,_,h=>by simpa [paramsT,denL] using h
 | p::ps,v::vs,T0,n,tm,hp,hv,h=>by
   simp only [OkL] at hv
   simp only [paramsT,denL,List.zip_cons_cons,List.foldl_cons]
   refine params_rel ps vs _ n _ (fun q hq=>hp q (List.mem_cons_of_mem _ hq)) hv.2 ⟨by simpa using h.1, ?_⟩
   intro i u hi
   have hpn:=hp p (List.mem_cons_self ..)
   rw [T.get_set] at hi
   split at hi
   · rename_i e;cases hi;subst e
     exact ⟨hv.1,by rw [Array.getElem?_setIfInBounds_self_of_lt (by rw [h.1];exact hpn)]⟩
   · rename_i e
     rw [Array.getElem?_setIfInBounds_ne (by omega)]
     exact h.2 i u hi
theorem invoke_sound (hC:CxOk C P) (hr:Rel C φ D s.heap w) (hn:¬D s.next) {d:Deferred} (hd:OkD D d):
 OpOk C φ D s w (invokeA C d.target d.args.toList s) ((invoke (denD φ d).target (denD φ d).args).run P w):=by
 have hok:=okL_args hd
 rw [denD_args]
 obtain ⟨target,args⟩:=d
 simp only [denD] at hok ⊢
 have ht:=hd.1
 unfold invokeA
 split
 · exact OpOk.nilDeref hC hr (by simp only [denTarget,invoke];exact nil_deref_run hC)
 · exact builtin_sound hC hr hn hok
 · rename_i f cap
   simp only [okTarget] at ht
   have hcap:OkL D cap.toList:=by
    have:=ht.2
    rw [OkA_iff] at this
    rw [OkL_iff];exact this
   have:OkL D (args.toList++cap.toList):=by
    rw [OkL_iff] at hok hcap ⊢
    intro x hx
    rcases List.mem_append.1 hx with hx | hx
    · exact hok x hx
    · exact hcap x hx
   have:=callFunc_sound (w:=w) (f:=f) hC hr hn this
   simp only [denTarget,denFn,invoke]
   have e:(denL φ args.toList).toArray++denA φ cap=(denL φ (args.toList++cap.toList)).toArray:=by
    rw [denA_list];simp [denL_map]
   rw [e];exact this
 · rename_i l cap
   simp only [okTarget,okFn] at ht
   split
   case h_2=>trivial
   rename_i r hb
   generalize hg:(bif Nat.beq args.toList.length r.params.size&&allLt r.ntm r.params.toList then R.ok (ANext.round l args.toList) s else R.fail)=res
   replace hg:=bool_split hg;rcases hg with ⟨hc,hg⟩ | ⟨_,hg⟩
   case inr=>subst hg;trivial
   simp only [Bool.and_eq_true,beq_iff] at hc
   subst hg
   obtain ⟨hDl,tm,htm,h1⟩:=hr.blk l _ hb
   have hsz:(denL φ args.toList).toArray.size=r.params.size:=by rw [<-hc.1];simp [denL_map]
   refine After.same hr ⟨.round (φ l).block r.fn ((r.params.zip (denL φ args.toList).toArray).foldl (fun tmps (p:Nat×Value)=>tmps.setIfInBounds p.1 p.2) tm) r.assign r.body, ?_,rfl,ht.1,r,hb,rfl,rfl,rfl, ?_⟩
   · simp only [denTarget,denFn,invoke,Instr.yield,Instr.getLoop,Sem.run_bind,run_getObj h1 (by intro _ _ _ h;cases h),Result.andThen_ok,Sem.run_pure]
     rw [if_neg (by simpa using hsz)]
     rfl
   · intro _
     have:=params_rel r.params.toList args.toList r.tmps r.ntm tm (allLt_mem hc.2) hok htm
     have e:(r.params.zip (denL φ args.toList).toArray).foldl (fun tmps (p:Nat×Value)=>tmps.setIfInBounds p.1 p.2) tm=(r.params.toList.zip (denL φ args.toList)).foldl (fun tmps (p:Nat×Value)=>tmps.setIfInBounds p.1 p.2) tm:=by
      rw [<-Array.foldl_toList];simp
     rw [e];exact this
 · rename_i name cap
   split
   · rename_i t v rest hargs
     rw [hargs] at hok
     simp only [OkL,Ok] at hok
     split
     case h_2=>trivial
     rename_i f recv hm
     have hms:=method_sound (φ:=φ) (w:=w) hC hm hok.1 (P.types.size+99)
     have hcf:=callFunc_sound (w:=w) (f:=f) hC hr hn (args:=recv::rest) (by simp only [OkL];exact ⟨hms.2,hok.2⟩)
     have e0:(denL φ args.toList).toArray[0]? =some (.iface t (den φ v)):=by rw [hargs];simp [denL,den]
     have e1: #[den φ recv]++(denL φ args.toList).toArray.extract 1 (denL φ args.toList).toArray.size=(denL φ (recv::rest)).toArray:=by
      rw [hargs];apply Array.toList_inj.1;simp [denL]
     simp only [denTarget,denFn,invoke,e0,callMethod,Sem.run_bind,run_program,Result.andThen_ok]
     rw [show P.types.size+Made.depth=P.types.size+99+1 from rfl,hms.1]
     simp only [Result.andThen_ok,e1]
     exact hcf
   · rename_i rest hargs
     refine OpOk.nilDeref hC hr ?_
     have e0:(denL φ args.toList).toArray[0]? =some .nilIface:=by rw [hargs];simp [denL,den]
     simp only [denTarget,denFn,invoke,e0,callMethod]
     exact nil_deref_run hC
   · trivial
 · trivial
end
end Go.Eng
namespace Go.Eng
section
variable {C:Cx} {P:Program} {φ:Phi} {D:Nat->Prop} {s:St} {w:World} {e:E} {a:Act}
theorem op_makeMap (hr:Rel C φ D s.heap w) (hn:¬D s.next) {run:Result Next} (h:run= .ok (.value (.map (some w.heap.size))) {w with heap:=w.heap.push (.map #[] 0)}):
 OpOk C φ D s w (.ok (.value (.map (some s.next))) (s.new (.map [] 0))) run:=by
 obtain ⟨h1,h2⟩:=hr.new (w':={w with heap:=w.heap.push (.map #[] 0)}) (b:= .map [] 0) (off:=0) (sl:=0) hn rfl rfl rfl rfl ⟨fun _ h=>(by cases h),by simp⟩
 refine ⟨_,_,_,h1,h2,.inr ⟨rfl,rfl⟩,_,h, ?_, ?_⟩
 · simp only [Ok];exact .inr rfl
 · simp [den,updPhi]
theorem op_makeChan (hC:CxOk C P) (hr:Rel C φ D s.heap w) (hn:¬D s.next) {t:TypeId} {x:Value}:
 OpOk C φ D s w (makeChanA C t x s) ((do pure (.value (<-Instr.makeChan t (den φ x))):Sem Next).run P w):=by
 generalize hg:makeChanA C t x s=res
 unfold makeChanA at hg
 split at hg
 case h_2=>subst hg;trivial
 rename_i dir elem k n hu
 split at hg
 case h_2=>subst hg;trivial
 rename_i ei hei
 replace hg:=bool_split hg;rcases hg with ⟨hc,hg⟩ | ⟨_,hg⟩
 case inr=>subst hg;trivial
 simp only [Bool.and_eq_true,ble_iff] at hc
 obtain ⟨hb,hcb⟩:=hc
 subst hg
 obtain ⟨h1,h2⟩:=hr.new (w':={w with heap:=w.heap.push (.chan n #[] false 0 0 false)}) (b:= .chan n [] 0 0) (off:=0) (sl:=0) hn rfl rfl rfl rfl ⟨by simp [OkL],by simp [denL]⟩
 refine ⟨_,_,_,h1,h2,.inr ⟨rfl,rfl⟩,.value (.chan (some w.heap.size)), ?_, ?_, ?_⟩
 · have hbi:((ei.bytes:Int)*(n:Int))<=1099511627776:=by
    have:((ei.bytes*n:Nat):Int)<=1099511627776:=by omega
    simpa using this
   have hmax:IntKind.i64.max=9223372036854775807:=rfl
   have hcond:¬((n:Int)<0\/(n:Int)>IntKind.i64.max\/(ei.bytes:Int)*(n:Int)>2^48-112):=by
    rw [hmax];omega
   simp only [Instr.makeChan,den,asInt,asIntOf,Sem.run_bind,Sem.run_pure,Result.andThen_ok,run_und hC hu,run_info hC hei,Int.ofNat_eq_natCast]
   rw [if_neg hcond]
   simp
 · simp only [Ok];exact .inr rfl
 · simp [den,updPhi]
def opA' (C:Cx) (e:E) (o:Oper) (s:St):R ANext:=
 match o.op with
 | .move x | .assign x=>ovalue (e.eval C x) s
 | .pick c a b=>match e.eval C c with
   | some (.bool true)=>ovalue (e.eval C a) s
   | some (.bool false)=>ovalue (e.eval C b) s
   | _=> .fail
 | .alloc t=>match C.zero t with
   | some z=> .ok (.value (.pointer (some ⟨s.next,0,none⟩))) (s.new (.cells (cellsOf' z) t 0 none))
   | none=> .fail
 | .box t x=>match e.eval C x,C.size t with
   | some v,some _=> .ok (.value (.pointer (some ⟨s.next,0,none⟩))) (s.new (.cells (cellsOf' v) t 0 none))
   | _,_=> .fail
 | .build t parts=>match partsA C e parts.toList with
   | some ps=>ovalue (buildA C t ps) s
   | none=> .fail
 | .buildSlice t len parts=>match partsA C e parts.toList with
   | some ps=>buildSliceA C t len ps s
   | none=> .fail
 | .load t a=>match e.eval C a with
   | some p=>ovalue (loadA C t p s) s
   | none=> .fail
 | .store t a x=>match e.eval C a,e.eval C x with
   | some p,some v=>ostate (storeA C t p v s)
   | _,_=> .fail
 | .nilCheck x=>match e.eval C x with
   | some (.pointer none) | some .nilIface | some .nilFunc=> .panic (nilDerefV C) s
   | some (.func (.method _) _ _)=> .fail
   | some v=> .ok (.value v) s
   | none=> .fail
 | .binOp op t x y _=>match e.eval C x,e.eval C y with
   | some a,some b=>ovalue (binA C op t (isCst x||isCst y) a b) s
   | _,_=> .fail
 | .unOp op _ x=>match e.eval C x with
   | some a=>ovalue (unA op a) s
   | none=> .fail
 | .convert src dst x=>match e.eval C x with
   | some a=>convA C src dst a s
   | none=> .fail
 | .makeInterface t x=>match e.eval C x,C.und t with
   | some _,some (.interface _)=> .fail
   | some a,some _=> .ok (.value (.iface t a)) s
   | _,_=> .fail
 | .makeFunc fn first captured=>match evals C e first.toList,evals C e captured.toList with
   | some f,some c=>bif isYield fn then .fail else .ok (.value (.func fn ⟨f⟩ ⟨c⟩)) s
   | _,_=> .fail
 | .makeMap t r=>match r with
   | none=> .ok (.value (.map (some s.next))) (s.new (.map [] 0))
   | some x=>match e.eval C x,C.und t with
     | some (.int _ _),some (.map _ _)=> .ok (.value (.map (some s.next))) (s.new (.map [] 0))
     | _,_=> .fail
 | .makeChan t x=>match e.eval C x with
   | some x=>makeChanA C t x s
   | none=> .fail
 | .makeSlice t l c=>match e.eval C l,e.eval C c with
   | some l,some c=>makeSliceA C t l c s
   | _,_=> .fail
 | .slice t x lo hi mx=>match e.eval C x,oev C e lo,oev C e hi,oev C e mx with
   | some x,some lo,some hi,some mx=>ovalue (sliceA C t x lo hi mx) s
   | _,_,_,_=> .fail
 | .fieldAddr t x f=>match e.eval C x with
   | some x=>ovalue (fieldAddrA C t x f) s
   | none=> .fail
 | .field t x f=>match e.eval C x with
   | some x=>ovalue (fieldA C t x f) s
   | none=> .fail
 | .indexAddr t x i=>match e.eval C x,e.eval C i with
   | some x,some i=>ovalue (indexAddrA C t x i) s
   | _,_=> .fail
 | .index t x i=>match e.eval C x,e.eval C i with
   | some x,some i=>ovalue (indexA C t x i) s
   | _,_=> .fail
 | .lookup t x k ok=>match e.eval C x,e.eval C k with
   | some x,some k=>ovalue (lookupA C t x k ok s) s
   | _,_=> .fail
 | .mapUpdate t m k x | .insert t m k x=>match e.eval C m,e.eval C k,e.eval C x with
   | some m,some k,some x=>ostate (mapUpdateA C t m k x s)
   | _,_,_=> .fail
 | .range t x=>match e.eval C x with
   | some x=>rangeA C t x s
   | none=> .fail
 | .entry it=>match e.eval C it with
   | some it=>ovalue (entryA it s) s
   | none=> .fail
 | .next it isS=>match e.eval C it with
   | some it=>nextA it isS s
   | none=> .fail
 | .typeAssert x _ asserted ok=>match e.eval C x with
   | some x=>ovalue (typeAssertA C x asserted ok) s
   | none=> .fail
 | .extract t i=>match e.eval C t with
   | some (.tuple vs)=>ovalue (nth vs.toList i) s
   | _=> .fail
 | .call c=>match resolveA C e c o.type with
   | some d=>invokeA C d.target d.args.toList s
   | none=> .fail
 | .defer c=>match resolveA C e c o.type with
   | some d=> .ok (.defer d) s
   | none=> .fail
 | .panic x=>match e.eval C x with
   | some x=>panicA x s
   | none=> .fail
 | _=> .fail
theorem opA_eq (C:Cx) (e:E) (o:Oper) (s:St):opA C e o s=opA' C e o s:=by
 unfold opA opA'
 generalize o.op=q
 cases q<;>rfl
theorem opA_sound (hC:CxOk C P) (hr:Rel C φ D s.heap w) (he:ERel φ D e a) (hn:¬D s.next) (o:Oper):OpOk C φ D s w (opA C e o s) ((execOp a.eval o).run P w):=by
 have ev:=fun {x:Operand} {v:Value} (h:e.eval C x=some v)=>eval_sound hC hr he h
 rw [opA_eq]
 unfold opA' execOp
 split
 · -- move
   rename_i x h
   simp only [h]
   exact op_move hC hr he x
 · rename_i x h
   simp only [h]
   exact op_move hC hr he x
 · -- pick
   rename_i c x y h
   simp only [h]
   split
   · rename_i hc
     have:=(ev hc).1
     refine .value hr fun v hv=> ?_
     have h2:=ev hv
     simp only [this,den,asBool,Sem.run_bind,Sem.run_pure,Result.andThen_ok,if_true,h2.1]
     exact ⟨trivial,h2.2⟩
   · rename_i hc
     have:=(ev hc).1
     refine .value hr fun v hv=> ?_
     have h2:=ev hv
     simp only [this,den,asBool,Sem.run_bind,Sem.run_pure,Result.andThen_ok,Bool.false_eq_true,if_false,h2.1]
     exact ⟨trivial,h2.2⟩
   · trivial
 · -- alloc
   rename_i t h
   simp only [h]
   split
   · exact op_alloc hC hr hn (by assumption)
   · trivial
 · -- box
   rename_i t x h
   simp only [h]
   split
   · exact op_box hC hr he hn (by assumption) (by assumption)
   · trivial
 · -- build
   rename_i t parts h
   simp only [h]
   split
   · exact op_build hC hr he (by assumption)
   · trivial
 · -- buildSlice
   rename_i t len parts h
   simp only [h]
   split
   · exact op_buildSlice hC hr he hn (by assumption)
   · trivial
 · -- load
   rename_i t x h
   simp only [h]
   split
   · exact op_load hC hr he (by assumption)
   · trivial
 · -- store
   rename_i t x y h
   simp only [h]
   split
   · exact op_store hC hr he (by assumption) (by assumption)
   · trivial
 · -- nilCheck
   rename_i x h
   simp only [h]
   split
   · rename_i hx;simp only [(ev hx).1,den];exact OpOk.nilDeref hC hr (nil_deref_run hC)
   · rename_i hx;simp only [(ev hx).1,den];exact OpOk.nilDeref hC hr (nil_deref_run hC)
   · rename_i hx;simp only [(ev hx).1,den];exact OpOk.nilDeref hC hr (nil_deref_run hC)
   · trivial
   · rename_i v h1 h2 h3 h4 hx
     have hv:=ev hx
     refine .ok_value hr ?_ hv.2
     rw [hv.1]
     cases v with
     | pointer q=>cases q with
       | none=>exact (h1 rfl).elim
       | some q=>simp [den]
     | nilIface=>exact (h2 rfl).elim
     | nilFunc=>exact (h3 rfl).elim
     | func fn f c=>cases fn with
       | method n=>exact (h4 _ _ _ rfl).elim
       | _=>simp [den,denFn]
     | slice q l c=>cases q<;>simp [den]
     | map q=>cases q<;>simp [den]
     | chan q=>cases q<;>simp [den]
     | _=>simp [den]
   · trivial
 · -- binOp
   rename_i op t x y u h
   simp only [h]
   split
   · rename_i p q hp hq
     refine .value hr fun v hv=> ?_
     have h1:=ev hp
     have h2:=ev hq
     have:=binA_sound (P:=P) (φ:=φ) (D:=D) (w:=w) hC hv h1.2 h2.2
     simp only [h1.1,h2.1,Sem.run_bind] at this ⊢
     rw [this.1]
     exact ⟨rfl,this.2⟩
   · trivial
 · -- unOp
   rename_i op t x h
   simp only [h]
   split
   · rename_i p hp
     refine .value hr fun v hv=> ?_
     have h1:=ev hp
     have:=unA_sound (P:=P) (φ:=φ) (D:=D) (w:=w) hv
     simp only [h1.1,Sem.run_bind,this.1,Result.andThen_ok,Sem.run_pure]
     exact ⟨trivial,this.2⟩
   · trivial
 · -- convert
   rename_i src dst x h
   simp only [h]
   split
   · rename_i p hp
     have h1:=ev hp
     rw [h1.1]
     exact op_conv hC hr hn h1.2
   · trivial
 · -- makeInterface
   rename_i t x h
   simp only [h]
   split
   · trivial
   · rename_i p d hno hp hd
     have h1:=ev hp
     refine .ok_value hr ?_ (by simp only [Ok];exact h1.2)
     rw [h1.1]
     simp only [Instr.makeInterface,Sem.run_bind,run_und hC hd,Result.andThen_ok,den]
     cases d<;>first
      | exact (hno _ rfl).elim
      | simp
   · trivial
 · -- makeFunc
   rename_i fn first cap h
   simp only [h]
   split
   · rename_i f c hf hcp
     obtain ⟨h1,h2⟩:=evals_sound hC hr he hf
     obtain ⟨h3,h4⟩:=evals_sound hC hr he hcp
     have e1:first.map a.eval=(denL φ f).toArray:=by apply Array.toList_inj.1;rw [Array.toList_map,h1]
     have e2:cap.map a.eval=(denL φ c).toArray:=by apply Array.toList_inj.1;rw [Array.toList_map,h3]
     cases fn<;>simp only [isYield,cond_false,cond_true]<;>first
      | trivial
      | (refine .ok_value hr ?_ (by simp only [Ok,okFn,OkA];exact ⟨trivial,h2,h4⟩)
         simp [Instr.makeFunc,e1,e2,den,denFn,denA])
   · trivial
 · -- makeMap
   rename_i t r h
   simp only [h]
   split
   · exact op_makeMap hr hn (by simp [Instr.makeMap])
   · rename_i x
     split
     · rename_i k n ke el hx hu
       have h1:=ev hx
       exact op_makeMap hr hn (by simp [Instr.makeMap,run_und hC hu,h1.1,den,asInt,asIntOf])
     · trivial
 · -- makeChan
   rename_i t x h
   simp only [h]
   split
   · rename_i p hp
     have h1:=ev hp
     rw [h1.1]
     exact op_makeChan hC hr hn
   · trivial
 · -- makeSlice
   rename_i t l c h
   simp only [h]
   split
   · rename_i p q hp hq
     have h1:=ev hp
     have h2:=ev hq
     rw [h1.1,h2.1]
     exact op_makeSlice hC hr hn
   · trivial
 · -- slice
   rename_i t x lo hi mx h
   simp only [h]
   split
   · rename_i p lo' hi' mx' hp hlo hhi hmx
     have h1:=ev hp
     have h2:=oev_sound hC hr he hlo
     have h3:=oev_sound hC hr he hhi
     have h4:=oev_sound hC hr he hmx
     refine .value hr fun v hv=> ?_
     have:=slice_sound (P:=P) (φ:=φ) (w:=w) hC hv h1.2
     simp only [h1.1,h2.1,h3.1,h4.1,Sem.run_bind,this.1,Result.andThen_ok,Sem.run_pure]
     exact ⟨trivial,this.2⟩
   · trivial
 · -- fieldAddr
   rename_i t x f h
   simp only [h]
   split
   · rename_i p hp
     have h1:=ev hp
     refine .value hr fun v hv=> ?_
     have:=fieldAddr_sound (P:=P) (φ:=φ) (w:=w) hC hv h1.2
     simp only [h1.1,Sem.run_bind,this.1,Result.andThen_ok,Sem.run_pure]
     exact ⟨trivial,this.2⟩
   · trivial
 · -- field
   rename_i t x f h
   simp only [h]
   split
   · rename_i p hp
     have h1:=ev hp
     refine .value hr fun v hv=> ?_
     have:=field_sound (P:=P) (φ:=φ) (w:=w) hC hv h1.2
     simp only [h1.1,Sem.run_bind,this.1,Result.andThen_ok,Sem.run_pure]
     exact ⟨trivial,this.2⟩
   · trivial
 · -- indexAddr
   rename_i t x i h
   simp only [h]
   split
   · rename_i p q hp hq
     have h1:=ev hp
     have h2:=ev hq
     refine .value hr fun v hv=> ?_
     have:=indexAddr_sound (P:=P) (φ:=φ) (w:=w) hC hv h1.2
     simp only [h1.1,h2.1,Sem.run_bind,this.1,Result.andThen_ok,Sem.run_pure]
     exact ⟨trivial,this.2⟩
   · trivial
 · -- index
   rename_i t x i h
   simp only [h]
   split
   · rename_i p q hp hq
     have h1:=ev hp
     have h2:=ev hq
     refine .value hr fun v hv=> ?_
     have:=index_sound (P:=P) (φ:=φ) (w:=w) hC hv h1.2
     simp only [h1.1,h2.1,Sem.run_bind,this.1,Result.andThen_ok,Sem.run_pure]
     exact ⟨trivial,this.2⟩
   · trivial
 · -- lookup
   rename_i t x k ok h
   simp only [h]
   split
   · rename_i p q hp hq
     have h1:=ev hp
     have h2:=ev hq
     refine .value hr fun v hv=> ?_
     have:=lookup_sound (P:=P) (φ:=φ) (w:=w) hC hr hv
     simp only [h1.1,h2.1,Sem.run_bind,this.1,Result.andThen_ok,Sem.run_pure]
     exact ⟨trivial,this.2⟩
   · trivial
 · -- mapUpdate
   rename_i t m k x h
   simp only [h]
   split
   · rename_i p q r hp hq hr'
     have h1:=ev hp
     have h2:=ev hq
     have h3:=ev hr'
     rw [h1.1,h2.1,h3.1]
     exact op_mapUpdate hC hr h2.2 h3.2
   · trivial
 · -- insert
   rename_i t m k x h
   simp only [h]
   split
   · rename_i p q r hp hq hr'
     have h1:=ev hp
     have h2:=ev hq
     have h3:=ev hr'
     rw [h1.1,h2.1,h3.1]
     exact op_mapUpdate hC hr h2.2 h3.2
   · trivial
 · -- range
   rename_i t x h
   simp only [h]
   split
   · rename_i p hp
     have h1:=ev hp
     rw [h1.1]
     exact op_range hC hr hn
   · trivial
 · -- entry
   rename_i it h
   simp only [h]
   split
   · rename_i p hp
     have h1:=ev hp
     refine .value hr fun v hv=> ?_
     obtain ⟨e1,e2⟩:=entry_sound (P:=P) hr hv
     exact ⟨by simp only [Sem.run_bind,h1.1,e1,Result.andThen_ok,Sem.run_pure],e2⟩
   · trivial
 · -- next
   rename_i it isS h
   simp only [h]
   split
   · rename_i p hp
     have h1:=ev hp
     rw [h1.1]
     exact op_next hC hr
   · trivial
 · -- typeAssert
   rename_i x t asserted ok h
   simp only [h]
   split
   · rename_i p hp
     have h1:=ev hp
     refine .value hr fun v hv=> ?_
     have:=typeAssert_sound (P:=P) (φ:=φ) (w:=w) (xType:=t) hC hv h1.2
     simp only [h1.1,Sem.run_bind,this.1,Result.andThen_ok,Sem.run_pure]
     exact ⟨trivial,this.2⟩
   · trivial
 · -- extract
   rename_i t i h
   simp only [h]
   split
   · rename_i vs hp
     have h1:=ev hp
     refine .value hr fun v hv=> ?_
     rw [nth_eq] at hv
     have hk:=h1.2
     simp only [Ok,OkA_iff] at hk
     refine ⟨?_,hk v (List.mem_of_getElem? hv)⟩
     have:(denA φ vs)[i]? =some (den φ v):=by rw [denA_list];simp only [List.getElem?_toArray,getElem?_denL,hv];rfl
     simp only [h1.1,den,Instr.extract,this]
     rfl
   · trivial
 · -- call
   rename_i c h
   simp only [h]
   split
   · rename_i d hd
     obtain ⟨h1,h2⟩:=resolve_sound hC hr he hd
     simp only [Sem.run_bind,h1,Result.andThen_ok]
     exact invoke_sound hC hr hn h2
   · trivial
 · -- defer
   rename_i c h
   simp only [h]
   split
   · rename_i d hd
     obtain ⟨h1,h2⟩:=resolve_sound hC hr he hd
     exact After.same hr ⟨.defer (denD φ d),by simp [h1],h2,rfl⟩
   · trivial
 · -- panic
   rename_i x h
   simp only [h]
   split
   · rename_i p hp
     have h1:=ev hp
     rw [h1.1]
     exact panicA_sound hr h1.2
   · trivial
 · trivial
end
end Go.Eng
namespace Go.Eng
def fat (b:Frame) (a:Act) (todo:List Item):Frame:={fn:=b.fn,tmps:=a.tmps,todo,defers:=a.defers,mode:= .run,kind:=b.kind,roundOf:=b.roundOf}
section
variable {P:Program} {b:Frame} {a:Act} {k:List Item} {cs:List Frame} {w:World}
theorem eval_fat (b:Frame) (a:Act) (todo:List Item):(fat b a todo).eval=a.eval:=by
 funext x;cases x<;>rfl
theorem go_skip:step P (lone (fat b a (.code .skip::k)) cs w)= .next (lone (fat b a k) cs w):=
 step_lone_go (by simp [stepG,stepG.exec,fat])
theorem go_label {l:Nat}:step P (lone (fat b a (.code (.label l)::k)) cs w)= .next (lone (fat b a k) cs w):=
 step_lone_go (by simp [stepG,stepG.exec,fat])
theorem go_inBlock {id:Nat}:step P (lone (fat b a (.inBlock id::k)) cs w)= .next (lone (fat b a k) cs w):=
 step_lone_go (by simp [stepG,stepG.exec,fat])
theorem go_inScope {c:Code}:step P (lone (fat b a (.inScope c::k)) cs w)= .next (lone (fat b a k) cs w):=
 step_lone_go (by simp [stepG,stepG.exec,fat])
theorem go_seq {x y:Code}:step P (lone (fat b a (.code (.seq x y)::k)) cs w)= .next (lone (fat b a (.code x:: .code y::k)) cs w):=
 step_lone_go (by simp [stepG,stepG.exec,fat])
theorem go_cond {c:Operand} {x y:Code} {t:Bool} (h:a.eval c= .bool t):step P (lone (fat b a (.code (.cond c x y)::k)) cs w)= .next (lone (fat b a (.code (if t then x else y)::k)) cs w):=
 step_lone_go (by
  have:=congrFun (eval_fat b a (.code (.cond c x y)::k)) c
  simp only [fat] at this
  simp [stepG,stepG.exec,fat,this,h])
theorem go_block {id:Nat} {c:Code}:step P (lone (fat b a (.code (.block id c)::k)) cs w)= .next (lone (fat b a (.code c:: .inBlock id::k)) cs w):=
 step_lone_go (by simp [stepG,stepG.exec,fat])
theorem go_loop {c:Code}:step P (lone (fat b a (.code (.loop c)::k)) cs w)= .next (lone (fat b a (.code c:: .inLoop c::k)) cs w):=
 step_lone_go (by simp [stepG,stepG.exec,fat])
theorem go_inLoop {c:Code}:step P (lone (fat b a (.inLoop c::k)) cs w)= .next (lone (fat b a (.code c:: .inLoop c::k)) cs w):=
 step_lone_go (by simp [stepG,stepG.exec,fat])
theorem go_scope {c:Code}:step P (lone (fat b a (.code (.scope c)::k)) cs w)= .next (lone (fat b a (.code c:: .inScope c::k)) cs w):=
 step_lone_go (by simp [stepG,stepG.exec,fat])
theorem go_exit {id:Nat} {k':List Item} (h:exitTo id k=some k'):step P (lone (fat b a (.code (.exit id)::k)) cs w)= .next (lone (fat b a k') cs w):=
 step_lone_go (by simp [stepG,stepG.exec,fat,h])
theorem go_region {id:Nat} {ops:Array Oper}:step P (lone (fat b a (.code (.region id ops false)::k)) cs w)= .next (lone (fat b a (.inRegion ops (List.range ops.size)::k)) cs w):=
 step_lone_go (by simp [stepG,stepG.exec,fat])
theorem go_region_draw {id:Nat} {ops:Array Oper}:step P (lone (fat b a (.code (.region id ops true)::k)) cs w)=
 .next (lone (fat b a (.inRegion ops (Region.schedule (P.follows .mixedOrders) ops (w.tape w.drawn (.order b.fn id)))::k)) cs {w with drawn:=w.drawn+1}):=
 step_lone_go (by simp [stepG,stepG.exec,fat,choose,Sem.run,Question.forced,Question.cut])
theorem go_region_end {ops:Array Oper}:step P (lone (fat b a (.inRegion ops []::k)) cs w)= .next (lone (fat b a k) cs w):=
 step_lone_go (by simp [stepG,stepG.exec,fat])
theorem finish_fat (b:Frame) (a:Act) (ops:Array Oper) (i:Nat) (rest:List Nat) (k:List Item) (v:Value):
 (fat b a (.inRegion ops (i::rest)::k)).finish v=fat b (a.put ((ops[i]?).bind (·.dst)) v) (.inRegion ops rest::k):=by
 cases h:(ops[i]?).bind (·.dst)<;>simp [Frame.finish,fat,Act.put,h]
theorem go_op_skip {ops:Array Oper} {i:Nat} {rest:List Nat} (h:((ops[i]?).map (Region.wanted · (yielded ops a.tmps))).getD false=false):
 step P (lone (fat b a (.inRegion ops (i::rest)::k)) cs w)= .next (lone (fat b (a.put ((ops[i]?).bind (·.dst)) undef) (.inRegion ops rest::k)) cs w):=by
 rw [<-finish_fat]
 exact step_lone_go (by
  have h':=h
  simp only [fat] at*
  simp [stepG,stepG.exec,h'])
theorem stepG_opF {ops:Array Oper} {i:Nat} {rest:List Nat} {o:Oper} (ho:ops[i]? =some o) (hw:Region.wanted o (yielded ops a.tmps)=true)
 (hd:b.roundOf=none\/∀c,o.op≠.defer c):
 stepG P true {frame:=fat b a (.inRegion ops (i::rest)::k),callers:=cs,status:= .running,dying:=none} w=
  stepG.apply P true (fat b a (.inRegion ops (i::rest)::k)) cs none (execOp a.eval o) w:=by
 have he:=eval_fat b a (.inRegion ops (i::rest)::k)
 simp only [fat] at he
 simp only [stepG,stepG.exec,fat,ho,Option.map_some,Option.getD_some,hw,if_true,stepG.oper,Frame.oper?,he]
 rcases hd with hd | hd
 · simp [hd]
 · split
   · rename_i h1 h2;exact absurd h2 (hd _)
   · rfl
theorem go_value {ops:Array Oper} {i:Nat} {rest:List Nat} {o:Oper} {v:Value} {w':World} (ho:ops[i]? =some o) (hw:Region.wanted o (yielded ops a.tmps)=true)
 (hd:b.roundOf=none\/∀c,o.op≠.defer c) (hr:(execOp a.eval o).run P w= .ok (.value v) w'):
 step P (lone (fat b a (.inRegion ops (i::rest)::k)) cs w)= .next (lone (fat b (a.put o.dst v) (.inRegion ops rest::k)) cs w'):=by
 have hf:=finish_fat b a ops i rest k v
 rw [ho] at hf
 simp only [Option.bind_some] at hf
 refine step_lone_go ?_
 rw [stepG_opF ho hw hd,<-hf];simp [stepG.apply,hr]
theorem go_opskip {ops:Array Oper} {i:Nat} {rest:List Nat} {o:Oper} {w':World} (ho:ops[i]? =some o) (hw:Region.wanted o (yielded ops a.tmps)=true)
 (hd:b.roundOf=none\/∀c,o.op≠.defer c) (hr:(execOp a.eval o).run P w= .ok .skip w'):
 step P (lone (fat b a (.inRegion ops (i::rest)::k)) cs w)= .next (lone (fat b (a.put o.dst undef) (.inRegion ops rest::k)) cs w'):=by
 have hf:=finish_fat b a ops i rest k undef
 rw [ho] at hf
 simp only [Option.bind_some] at hf
 refine step_lone_go ?_
 rw [stepG_opF ho hw hd,<-hf];simp [stepG.apply,hr]
theorem go_enter {ops:Array Oper} {i:Nat} {rest:List Nat} {o:Oper} {f:FuncId} {args:Array Value} {w':World} (ho:ops[i]? =some o) (hw:Region.wanted o (yielded ops a.tmps)=true)
 (hd:b.roundOf=none\/∀c,o.op≠.defer c) (hr:(execOp a.eval o).run P w= .ok (.enter f args) w'):
 step P (lone (fat b a (.inRegion ops (i::rest)::k)) cs w)= .next (lone (Frame.enter P f args .normal) (fat b a (.inRegion ops (i::rest)::k)::cs) w'):=by
 refine step_lone_go ?_
 rw [stepG_opF ho hw hd];simp [stepG.apply,hr,fat]
theorem go_round {ops:Array Oper} {i:Nat} {rest:List Nat} {o:Oper} {l:Nat} {f:FuncId} {tm:Array Value} {as bd:Code} {w':World} (ho:ops[i]? =some o) (hw:Region.wanted o (yielded ops a.tmps)=true)
 (hd:b.roundOf=none\/∀c,o.op≠.defer c) (hr:(execOp a.eval o).run P w= .ok (.round l f tm as bd) w'):
 step P (lone (fat b a (.inRegion ops (i::rest)::k)) cs w)= .next (lone (Frame.round l f tm as bd .normal) (fat b a (.inRegion ops (i::rest)::k)::cs) w'):=by
 refine step_lone_go ?_
 rw [stepG_opF ho hw hd];simp [stepG.apply,hr,fat]
theorem go_defer {ops:Array Oper} {i:Nat} {rest:List Nat} {o:Oper} {d:Deferred} {w':World} (ho:ops[i]? =some o) (hw:Region.wanted o (yielded ops a.tmps)=true)
 (hd:b.roundOf=none) (hr:(execOp a.eval o).run P w= .ok (.defer d) w'):
 step P (lone (fat b a (.inRegion ops (i::rest)::k)) cs w)= .next (lone (fat b ({a with defers:=d::a.defers}.put o.dst undef) (.inRegion ops rest::k)) cs w'):=by
 have hf:=finish_fat b {a with defers:=d::a.defers} ops i rest k undef
 rw [ho] at hf
 simp only [Option.bind_some] at hf
 refine step_lone_go ?_
 rw [stepG_opF ho hw (.inl hd)]
 simp only [stepG.apply,Sem.runT_eq,hr,GStep.bare_after]
 exact congrArg (fun fr=>GStep.go {frame:=fr,callers:=cs,status:= .running,dying:=none} w') hf
theorem go_panic {ops:Array Oper} {i:Nat} {rest:List Nat} {o:Oper} {v:Value} {w':World} (ho:ops[i]? =some o) (hw:Region.wanted o (yielded ops a.tmps)=true)
 (hd:b.roundOf=none\/∀c,o.op≠.defer c) (hr:(execOp a.eval o).run P w= .halt (.panic v) w'):
 step P (lone (fat b a (.inRegion ops (i::rest)::k)) cs w)= .next (lone {fat b a (.inRegion ops (i::rest)::k) with mode:= .panicking [{v,recovered:=false}]} cs w'):=by
 refine step_lone_go ?_
 rw [stepG_opF ho hw hd];simp [stepG.apply,hr,Frame.raise,fat]
theorem go_recover_normal {ops:Array Oper} {i:Nat} {rest:List Nat} {o:Oper} {w':World} (ho:ops[i]? =some o) (hw:Region.wanted o (yielded ops a.tmps)=true)
 (hk:b.kind= .normal) (hro:b.roundOf=none) (hr:(execOp a.eval o).run P w= .ok .recover w'):
 step P (lone (fat b a (.inRegion ops (i::rest)::k)) cs w)= .next (lone (fat b (a.put o.dst .nilIface) (.inRegion ops rest::k)) cs w'):=by
 have hf:=finish_fat b a ops i rest k .nilIface
 rw [ho] at hf
 simp only [Option.bind_some] at hf
 have htr:tryRecover (fat b a (.inRegion ops (i::rest)::k)) cs=none:=by
  cases cs<;>simp [tryRecover,fat,hk]
 refine step_lone_go ?_
 rw [stepG_opF ho hw (.inl hro),<-hf]
 simp only [fat,hro] at htr
 simp [stepG.apply,hr,fat,hro,htr]
theorem go_recover_deferred {ops:Array Oper} {i:Nat} {rest:List Nat} {o:Oper} {w':World} (ho:ops[i]? =some o) (hw:Region.wanted o (yielded ops a.tmps)=true)
 (hk:b.kind= .deferred) (hro:b.roundOf=none) (hr:(execOp a.eval o).run P w= .ok .recover w'):
 step P (lone (fat b a (.inRegion ops (i::rest)::k)) cs w)=
  match recoverD cs with
  | some (v,cs')=> .next (lone (fat b (a.put o.dst v) (.inRegion ops rest::k)) cs' w')
  | none=> .next (lone (fat b (a.put o.dst .nilIface) (.inRegion ops rest::k)) cs w'):=by
 have htr:tryRecover (fat b a (.inRegion ops (i::rest)::k)) cs=recoverD cs:=tryRecover_deferred (by simp [fat,hk]) cs
 split
 · rename_i v cs' hrec
   have hf:=finish_fat b a ops i rest k v
   rw [ho] at hf
   simp only [Option.bind_some] at hf
   refine step_lone_go ?_
   rw [stepG_opF ho hw (.inl hro),<-hf]
   simp only [fat,hro] at htr
   simp [stepG.apply,hr,fat,hro,htr,hrec]
 · rename_i hrec
   have hf:=finish_fat b a ops i rest k .nilIface
   rw [ho] at hf
   simp only [Option.bind_some] at hf
   refine step_lone_go ?_
   rw [stepG_opF ho hw (.inl hro),<-hf]
   simp only [fat,hro] at htr
   simp [stepG.apply,hr,fat,hro,htr,hrec]
end
def Arr (P:Program) (m:Machine) (b:Frame) (k:List Item) (cs:List Frame):X->Act->World->Prop
 | .normal,a,w=>Steps P m (lone (fat b a k) cs w)
 | .exit id,a,w=>∃kk,exitTo id kk=exitTo id k/\Steps P m (lone (fat b a (.code (.exit id)::kk)) cs w)
 | .goto l,a,w=>∃kk,gotoIn l kk=gotoIn l k/\Steps P m (lone (fat b a (.code (.goto l)::kk)) cs w)
 | .ret,a,w=>∃kk,Steps P m (lone (fat b a (.code .ret::kk)) cs w)
 | .panic chain,a,w=>∃todo,Steps P m (lone {fat b a todo with mode:= .panicking chain} cs w)
theorem Arr.of_steps {P:Program} {m m₁:Machine} {b:Frame} {k:List Item} {cs:List Frame} {x:X} {a:Act} {w:World}
 (h:Steps P m m₁) (h':Arr P m₁ b k cs x a w):Arr P m b k cs x a w:=by
 cases x with
 | normal=>exact h.trans h'
 | exit id=>obtain ⟨kk,h1,h2⟩:=h';exact ⟨kk,h1,h.trans h2⟩
 | goto l=>obtain ⟨kk,h1,h2⟩:=h';exact ⟨kk,h1,h.trans h2⟩
 | ret=>obtain ⟨kk,h2⟩:=h';exact ⟨kk,h.trans h2⟩
 | panic chain=>obtain ⟨todo,h2⟩:=h';exact ⟨todo,h.trans h2⟩
theorem Arr.pass {P:Program} {m:Machine} {b:Frame} {i:Item} {k:List Item} {cs:List Frame} {x:X} {a:Act} {w:World}
 (hi:i.plain=true) (hx:x≠.normal) (h:Arr P m b (i::k) cs x a w):Arr P m b k cs x a w:=by
 cases x with
 | normal=>exact absurd rfl hx
 | exit id=>obtain ⟨kk,h1,h2⟩:=h;exact ⟨kk,by rw [h1];cases i<;>simp_all [exitTo,Item.plain],h2⟩
 | goto l=>obtain ⟨kk,h1,h2⟩:=h;exact ⟨kk,by rw [h1];cases i<;>simp_all [gotoIn,Item.plain],h2⟩
 | ret=>exact h
 | panic chain=>exact h
end Go.Eng
namespace Go.Eng
section
variable {P:Program} {b:Frame} {a:Act} {k:List Item} {cs:List Frame} {w:World}
theorem stepG_comm {ops:Array Oper} {i:Nat} {rest:List Nat} {o:Oper} (ho:ops[i]? =some o) (hw:Region.wanted o (yielded ops a.tmps)=true)
 (hd:∀c,o.op≠.defer c) {cases:Array CommCase} {bl:Bool} {shape:CommShape} {w':World} (hr:(execOp a.eval o).run P w= .ok (.comm cases bl shape) w'):
 ∃es,stepG P true (Conc.G (fat b a (.inRegion ops (i::rest)::k)) cs) w= .comm (Conc.G (fat b a (.inRegion ops (i::rest)::k)) cs) cases bl shape w' es:=by
 have h1:stepG P true (Conc.G (fat b a (.inRegion ops (i::rest)::k)) cs) w=stepG.apply P true (fat b a (.inRegion ops (i::rest)::k)) cs none (execOp a.eval o) w:=stepG_opF ho hw (.inr hd)
 rw [h1]
 simp only [stepG.apply,Sem.runT_eq,hr]
 exact ⟨_,rfl⟩
theorem fin_fat {ops:Array Oper} {i:Nat} {rest:List Nat} {o:Oper} (ho:ops[i]? =some o) (v:Value):(fat b a (.inRegion ops (i::rest)::k)).finish v=fat b (a.put o.dst v) (.inRegion ops rest::k):=by
 have hf:=finish_fat b a ops i rest k v
 rw [ho] at hf
 simpa using hf
variable {C:Cx} {φ:Phi} {D:Nat->Prop} {s:St} {e:E}
theorem chan_set (hr:Rel C φ D s.heap w) {r cap sent rcvd sent' rcvd':Nat} {buf buf':List Value} (hb:s.heap.get r=some (.chan cap buf sent rcvd)) (hok:OkL D buf'):
 Rel C φ D (s.heap.set r (.chan cap buf' sent' rcvd')) (w.setChan (φ r).block cap (denL φ buf').toArray false sent' rcvd' false)/\
 Ext φ D s.heap w φ D (s.heap.set r (.chan cap buf' sent' rcvd')) (w.setChan (φ r).block cap (denL φ buf').toArray false sent' rcvd' false):=by
 obtain ⟨_,h1⟩:=hr.blk r _ hb
 exact hr.setObj (o:= .chan cap (denL φ buf').toArray false sent' rcvd' false) hb rfl rfl rfl ⟨hok,setB_same (heap_lt h1)⟩
def commA' (C:Cx) (e:E) (o:Oper) (s:St):Option (Value×St):=
 match o.op with
 | .send ch x=>match e.eval C ch,e.eval C x with
   | some ch,some v=>match sendA s ch v with
     | some s=>some (undef,s)
     | none=>none
   | _,_=>none
 | .recv t ch ok=>match e.eval C ch with
   | some ch=>recvA C t ch ok s
   | none=>none
 | .select cases false=>match cases.toList with
   | [c]=>match c.send,e.eval C c.chan with
     | some x,some ch=>match e.eval C x with
       | some v=>offerA C c.elem ch v s
       | none=>none
     | _,_=>none
   | _=>none
 | _=>none
theorem commA_eq (C:Cx) (e:E) (o:Oper) (s:St):commA C e o s=commA' C e o s:=by
 unfold commA commA'
 generalize o.op=q
 cases q<;>first | rfl | (rename_i b;cases b<;>rfl)
theorem comm_sound (hC:CxOk C P) {ops:Array Oper} {i:Nat} {rest:List Nat} {o:Oper} (ho:ops[i]? =some o) (hw:Region.wanted o (yielded ops a.tmps)=true)
 (hr:Rel C φ D s.heap w) (he:ERel φ D e a) {v:Value} {s':St} (h:commA C e o s=some (v,s')):
 ∃w',Rel C φ D s'.heap w'/\Ext φ D s.heap w φ D s'.heap w'/\s'.next=s.next/\Ok D v/\
  step P (lone (fat b a (.inRegion ops (i::rest)::k)) cs w)= .next (lone (fat b (a.put o.dst (den φ v)) (.inRegion ops rest::k)) cs w'):=by
 have ev:=fun {x:Operand} {v:Value} (h:e.eval C x=some v)=>eval_sound hC hr he h
 rw [commA_eq] at h
 unfold commA' at h
 split at h
 · -- a send
   rename_i ch x hop
   split at h
   case h_2=>cases h
   rename_i cv xv hch hx
   split at h
   case h_2=>cases h
   rename_i s1 hs
   cases h
   obtain ⟨c1,c2⟩:=ev hch
   obtain ⟨x1,x2⟩:=ev hx
   unfold sendA at hs
   split at hs
   case h_2=>cases hs
   rename_i r
   split at hs
   case h_2=>cases hs
   rename_i cap buf sent rcvd hb
   replace hs:=bool_split hs;rcases hs with ⟨hlt,hs⟩ | ⟨_,hs⟩
   case inr=>cases hs
   rw [blt_iff] at hlt
   cases hs
   obtain ⟨hok,h1⟩:=hr.blk r _ hb
   have hok':OkL D (buf++[xv]):=by
    rw [OkL_iff] at hok ⊢
    intro y hy
    rcases List.mem_append.1 hy with hy | hy
    · exact hok y hy
    · simp only [List.mem_singleton] at hy;subst hy;exact x2
   obtain ⟨g1,g2⟩:=chan_set (sent':=sent+1) (rcvd':=rcvd) hr hb hok'
   refine ⟨_,g1,g2,rfl,ok_undef _, ?_⟩
   have hex:(execOp a.eval o).run P w= .ok (.comm #[Conc.scase (φ r).block (den φ xv) (.tuple #[])] true .send) w:=by
    simp [execOp,hop,c1,x1,den,Conc.scase]
   obtain ⟨es,hst⟩:=stepG_comm (b:=b) (k:=k) (cs:=cs) (rest:=rest) ho hw (fun c hc=>by rw [hop] at hc;cases hc) hex
   have:=Conc.step_lone_send_room hst h1 (by simpa [denL_map] using hlt)
   rw [fin_fat ho] at this
   rw [den_undef,show (denL φ (buf++[xv])).toArray=(denL φ buf).toArray.push (den φ xv) from by simp [denL_map]]
   exact this
 · -- a receive
   rename_i t ch ok hop
   split at h
   case h_2=>cases h
   rename_i cv hch
   obtain ⟨c1,c2⟩:=ev hch
   unfold recvA at h
   split at h
   case h_2=>cases h
   rename_i dir elem r hu
   split at h
   case h_2=>cases h
   rename_i z cap v0 buf sent rcvd hz hb
   cases h
   obtain ⟨hz1,_⟩:=zero_of hC hz
   obtain ⟨hok,h1⟩:=hr.blk r _ hb
   simp only [OkL] at hok
   obtain ⟨g1,g2⟩:=chan_set (sent':=sent) (rcvd':=rcvd+1) hr hb hok.2
   have hval:den φ (bif ok then .tuple #[v0,.bool true] else v0)=Conc.got ok (den φ v0) true:=by
    cases ok
    · rfl
    · simp only [cond_true,Conc.got,if_true];exact den_bool2 φ v0 true
   refine ⟨_,g1,g2,rfl, ?_, ?_⟩
   · cases ok
     · exact hok.1
     · exact ok_bool2 hok.1 true
   have hex:(execOp a.eval o).run P w= .ok (.comm #[Conc.rcase (φ r).block z] true (.recv ok)) w:=by
    simp [execOp,hop,run_und hC hu,hz1,c1,den,Conc.rcase]
   obtain ⟨es,hst⟩:=stepG_comm (b:=b) (k:=k) (cs:=cs) (rest:=rest) ho hw (fun c hc=>by rw [hop] at hc;cases hc) hex
   have:=Conc.step_lone_recv_buf ok hst h1 (by simp [denL])
   rw [fin_fat ho] at this
   rw [hval]
   have e1:(denL φ (v0::buf)).toArray.getD 0 undef=den φ v0:=by simp [denL]
   have e2:(denL φ (v0::buf)).toArray.extract 1 (denL φ (v0::buf)).toArray.size=(denL φ buf).toArray:=by simp [denL]
   rw [e1,e2] at this
   exact this
 · -- a select of one send,with a default
   rename_i cases hop
   split at h
   case h_2=>cases h
   rename_i c hcs
   split at h
   case h_2=>cases h
   rename_i x ch hcx hch
   split at h
   case h_2=>cases h
   rename_i xv hx
   obtain ⟨c1,c2⟩:=ev hch
   obtain ⟨x1,x2⟩:=ev hx
   unfold offerA at h
   split at h
   case h_2=>cases h
   rename_i z r hz
   split at h
   case h_2=>cases h
   rename_i cap buf sent rcvd hb
   obtain ⟨hz1,_⟩:=zero_of hC hz
   obtain ⟨hok,h1⟩:=hr.blk r _ hb
   have hcs':cases= #[c]:=by apply Array.ext';simpa using hcs
   have hex:(execOp a.eval o).run P w= .ok (.comm #[Conc.scase (φ r).block (den φ xv) z] false .select) w:=by
    simp [execOp,hop,hcs',hcx,hz1,c1,x1,den,Conc.scase]
   obtain ⟨es,hst⟩:=stepG_comm (b:=b) (k:=k) (cs:=cs) (rest:=rest) ho hw (fun c hc=>by rw [hop] at hc;cases hc) hex
   have hv:∀n:Int,den φ (.tuple #[.int .i64 n,.bool false])= .tuple #[goInt n,.bool false]:=fun n=>by simp [den,denA,denL,goInt]
   have hk:∀n:Int,Ok D (.tuple #[.int .i64 n,.bool false]):=fun n=>by simp [Ok,OkA,OkL]
   replace h:=bool_split h;rcases h with ⟨hlt,h⟩ | ⟨hlt,h⟩
   · rw [blt_iff] at hlt
     cases h
     have hok':OkL D (buf++[xv]):=by
      rw [OkL_iff] at hok ⊢
      intro y hy
      rcases List.mem_append.1 hy with hy | hy
      · exact hok y hy
      · simp only [List.mem_singleton] at hy;subst hy;exact x2
     obtain ⟨g1,g2⟩:=chan_set (sent':=sent+1) (rcvd':=rcvd) hr hb hok'
     refine ⟨_,g1,g2,rfl,hk 0, ?_⟩
     have:=Conc.step_lone_select_send_room hst h1 (by simpa [denL_map] using hlt)
     rw [fin_fat ho] at this
     rw [hv,show (denL φ (buf++[xv])).toArray=(denL φ buf).toArray.push (den φ xv) from by simp [denL_map]]
     exact this
   · have hge:=blt_false hlt
     cases h
     refine ⟨w,hr,Ext.refl ..,rfl,hk (-1), ?_⟩
     have:=Conc.step_lone_select_send_full hst h1 (by simpa [denL_map] using hge)
     rw [fin_fat ho] at this
     rw [hv]
     exact this
 · cases h
end
end Go.Eng
