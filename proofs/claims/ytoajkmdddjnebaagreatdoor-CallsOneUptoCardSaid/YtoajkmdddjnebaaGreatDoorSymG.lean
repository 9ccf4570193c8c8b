import Derived.Test.YtoajkmdddjnebaaGreatDoorSymF
import Derived.ChangeArms
import Derived.Deep.Slices
import Derived.OpenShut
import Derived.Test.YtoajkmdddjnebaaGreatDoorEngEG
import Derived.WideKeyArgs
set_option linter.unusedSimpArgs false
set_option linter.unusedVariables false
namespace Go.Eng
open Go.RowKit
theorem size_of {C:Cx} {P:Program} (hC:CxOk C P) {t:TypeId} {n:Nat} (h:C.size t=some n):P.cellsOf t=n:=by
 unfold Cx.size at h
 cases hi:C.types.get t with
 | none=>rw [hi] at h;cases h
 | some i=>
   rw [hi] at h
   simp only [Option.map_some,Option.some.injEq] at h
   have:=hC.info t i hi
   unfold Program.cellsOf
   rw [this]
   simpa using h
structure Bd (C:Cx) (W:World) where
 s:St
 φ:Phi
 D:Nat->Prop
 inv:Inv C φ D s W
 ro:∀i b,s.heap.get i=some b->writable b=false
 num:∀n,C.need=some n->n<C.globals/\numBlk (s.heap.get n)=true
section
variable {C:Cx} {P:Program} {W:World}
def Bd.g (B:Bd C W):Gh:=⟨fun _=>none,fun id=>(B.s.heap.get id).isSome=true,fun _=>False⟩
structure Bd.le (B B':Bd C W):Prop where
 heap:∀i b,B.s.heap.get i=some b->B'.s.heap.get i=some b
 dom:∀i,B.D i->B'.D i
 phi:∀i,B.D i->B'.φ i=B.φ i
 next:B.s.next<=B'.s.next
theorem Bd.le.refl (B:Bd C W):B.le B:=⟨fun _ _ h=>h,fun _ h=>h,fun _ _=>rfl,Nat.le_refl _⟩
theorem Bd.le.trans {B B' B'':Bd C W} (a:B.le B') (b:B'.le B''):B.le B'':=
 ⟨fun i x h=>b.heap i x (a.heap i x h),fun i h=>b.dom i (a.dom i h),fun i h=>(b.phi i (a.dom i h)).trans (a.phi i h),Nat.le_trans a.next b.next⟩
theorem Bd.le.grow {B B':Bd C W} (h:B.le B') (N:Nat):Grow B.s.heap B.g N B'.s.heap B'.g N:=by
 have key:∀id,(B.s.heap.get id).isSome=true->B'.s.heap.get id=B.s.heap.get id:=by
  intro id hid
  cases hb:B.s.heap.get id with
  | none=>rw [hb] at hid;cases hid
  | some b=>exact h.heap id b hb
 exact ⟨Nat.le_refl _,fun _ _=>rfl,fun id hid=>by
  have hid':(B.s.heap.get id).isSome=true:=hid
  show (B'.s.heap.get id).isSome=true
  rw [key id hid'];exact hid',fun _ h=>h,fun id hid=>key id hid,fun id hid=>hid.elim⟩
theorem Bd.le.ok {B B':Bd C W} (h:B.le B') {vs:List Value} (hv:OkL B.D vs):OkL B'.D vs/\denL B'.φ vs=denL B.φ vs:=
 ⟨OkL.mono h.dom vs hv,denL_congr (fun i hi=>h.phi i hi) vs hv⟩
theorem Bd.add (B:Bd C W) {b off sz:Nat} {cs:Array Value} {el elem:TypeId} {fr:Nat×Nat} {vs:List Value} (hW:W.heap[b]? =some (.cells cs el fr)) (hsz:C.size elem=some sz) (hl:off+vs.length<=cs.size)
 (hok:OkL B.D vs) (hv:∀j v,vs[j]? =some v->cs[off+j]? =some (den B.φ v)):
 ∃B':Bd C W,B.le B'/\B'.s.heap.get B.s.next=some (.cells vs elem 2 none)/\B'.D B.s.next/\B'.φ B.s.next=⟨b,off,0,none⟩:=by
 have hn:∀i,B.D i->i≠B.s.next:=fun i hi e=>by have:=B.inv.2 i hi;omega
 let φ':Phi:=fun i=>if i=B.s.next then ⟨b,off,0,none⟩ else B.φ i
 let D':Nat->Prop:=fun i=>B.D i\/i=B.s.next
 have hφ:∀i,B.D i->φ' i=B.φ i:=fun i hi=>if_neg (hn i hi)
 have hφn:φ' B.s.next=⟨b,off,0,none⟩:=if_pos rfl
 have hget:∀i bi,(B.s.new (.cells vs elem 2 none)).heap.get i=some bi->(i=B.s.next/\bi= .cells vs elem 2 none)\/B.s.heap.get i=some bi:=by
  intro i bi h
  simp only [St.new,T.get_set] at h
  split at h
  · rename_i e;cases h;exact .inl ⟨e,rfl⟩
  · exact .inr h
 have hold:∀i bi,B.s.heap.get i=some bi->(B.s.new (.cells vs elem 2 none)).heap.get i=some bi:=by
  intro i bi h
  simp only [St.new,T.get_set]
  rw [if_neg (hn i (B.inv.1.dom i bi h))];exact h
 refine ⟨⟨B.s.new (.cells vs elem 2 none),φ',D',⟨⟨fun i bi h=> ?_,fun i bi h=> ?_,fun i j bi bj hi hj hw=> ?_,fun g hg=> ?_⟩,fun i hi=> ?_⟩,fun i bi h=> ?_,fun n hn'=> ?_⟩,⟨hold,fun i h=> .inl h,hφ,Nat.le_succ _⟩, ?_,.inr rfl,hφn⟩
 · rcases hget i bi h with ⟨rfl,_⟩ | h
   · exact .inr rfl
   · exact .inl (B.inv.1.dom i bi h)
 · rcases hget i bi h with ⟨rfl,rfl⟩ | h
   · rw [hφn]
     refine ⟨OkL.mono (fun i h=> .inl h) vs hok,cs,el,fr,sz,hW,hsz,by simp only [Nat.zero_mul,Nat.add_zero];exact hl,fun j v hj=> ?_,fun h=>by omega⟩
     rw [den_congr (ψ:=B.φ) (D:=B.D) hφ v ((OkL_iff _ _).1 hok v (List.mem_of_getElem? hj))]
     exact hv j v hj
   · rw [hφ i (B.inv.1.dom i bi h)]
     exact (B.inv.1.blk i bi h).mono (fun i h=> .inl h) hφ rfl
 · have:writable bi=false:=by
    rcases hget i bi hi with ⟨_,rfl⟩ | h
    · rfl
    · exact B.ro i bi h
   rw [this] at hw;cases hw
 · obtain ⟨h1,h2⟩:=B.inv.1.glob g hg
   exact ⟨.inl h1,by rw [hφ g h1];exact h2⟩
 · have h':B.D i\/i=B.s.next:=hi
   simp only [St.new]
   rcases h' with h | rfl
   · have:=B.inv.2 i h;omega
   · omega
 · rcases hget i bi h with ⟨_,rfl⟩ | h
   · rfl
   · exact B.ro i bi h
 · obtain ⟨h1,h2⟩:=B.num n hn'
   refine ⟨h1, ?_⟩
   cases hb:B.s.heap.get n with
   | none=>rw [hb] at h2;cases h2
   | some x=>rw [hold n x hb,<-hb];exact h2
 · simp only [St.new,T.get_set,if_pos]
theorem Bd.name (B:Bd C W) (p:Pl):∃B':Bd C W,B.le B'/\B'.D B.s.next/\B'.φ B.s.next=p/\B'.s.heap=B.s.heap:=by
 have hn:∀i,B.D i->i≠B.s.next:=fun i hi e=>by have:=B.inv.2 i hi;omega
 let φ':Phi:=fun i=>if i=B.s.next then p else B.φ i
 let D':Nat->Prop:=fun i=>B.D i\/i=B.s.next
 have hφ:∀i,B.D i->φ' i=B.φ i:=fun i hi=>if_neg (hn i hi)
 have hφn:φ' B.s.next=p:=if_pos rfl
 refine ⟨⟨⟨B.s.heap,B.s.next+1⟩,φ',D',⟨⟨fun i bi h=> .inl (B.inv.1.dom i bi h),fun i bi h=> ?_,fun i j bi bj hi hj hw=> ?_,fun g hg=> ?_⟩,fun i hi=> ?_⟩,B.ro,B.num⟩,⟨fun _ _ h=>h,fun i h=> .inl h,hφ,Nat.le_succ _⟩,.inr rfl,hφn,rfl⟩
 · rw [hφ i (B.inv.1.dom i bi h)]
   exact (B.inv.1.blk i bi h).mono (fun i h=> .inl h) hφ rfl
 · rw [B.ro i bi hi] at hw;cases hw
 · obtain ⟨h1,h2⟩:=B.inv.1.glob g hg
   exact ⟨.inl h1,by rw [hφ g h1];exact h2⟩
 · have h':B.D i\/i=B.s.next:=hi
   show i<B.s.next+1
   rcases h' with h | rfl
   · have:=B.inv.2 i h;omega
   · omega
def plainF (C:Cx) (rec:TypeId->Bool):List Field->Nat->Nat->Bool
 | [],off,tot=>Nat.beq off tot
 | f::r,off,tot=>Nat.beq f.offset off&&match C.size f.type with
   | some sz=>rec f.type&&plainF C rec r (off+sz) tot
   | none=>false
def plainT (C:Cx):Nat->TypeId->Bool
 | 0,_=>false
 | n+1,t=>match C.und t with
   | some .bool=>true
   | some (.int _)=>true
   | some .string=>true
   | some (.slice e)=>match C.size e with
     | some sz=>Nat.blt 0 sz&&plainT C n e
     | none=>false
   | some (.struct fs)=>match C.size t with
     | some sz=>plainF C (plainT C n) fs.toList 0 sz
     | none=>false
   | some (.array m e)=>match C.size t,C.size e with
     | some st,some se=>Nat.beq st (m*se)&&plainT C n e
     | _,_=>false
   | _=>false
section
variable {H:Type}
def isDF (C:Cx) (rec:TypeId->DataW H->List SV->Prop):List Field->List (DataW H)->List SV->Prop
 | [],[],l=>l=[]
 | f::r,d::ds,l=>∃l1 l2,l=l1++l2/\rec f.type d l1/\isDF C rec r ds l2
 | _,_,_=>False
def isDA (rec:DataW H->List SV->Prop):Nat->List (DataW H)->List SV->Prop
 | 0,[],l=>l=[]
 | n+1,d::ds,l=>∃l1 l2,l=l1++l2/\rec d l1/\isDA rec n ds l2
 | _,_,_=>False
def isD (C:Cx):Nat->TypeId->DataW H->List SV->Prop
 | 0,_,_,_=>False
 | n+1,t,d,l=>match C.und t with
   | some .bool=>∃b,d= .lit (.bool b)/\l=[.bool b]
   | some (.int k)=>∃x,d= .lit (.int k x)/\l=[.int k x]/\(Lit.int k x).wf=true
   | some .string=>∃bs,d= .lit (.string bs)/\l=[.str bs]
   | some (.slice e)=>match C.size e with
     | some sz=>bif isU8 C e then ∃bs,l=[.bytes 0 false bs]/\((d= .nil/\bs=[])\/∃spare,d= .slice (bs.map fun b=> .lit (.int .u8 b.toNat)) spare)
       else ∃m f,l=[.imm 0 false m sz f]/\((d= .nil/\m=0)\/∃elems spare,d= .slice elems spare/\m=elems.length/\∀i e',elems[i]? =some e'->isD C n e e' (f i))
     | none=>False
   | some (.struct fs)=>∃ds,d= .agg ds/\isDF C (isD C n) fs.toList ds l
   | some (.array m e)=>∃ds,d= .agg ds/\isDA (isD C n e) m ds l
   | _=>False
structure Got (C:Cx) (W:World) (B:Bd C W) (rel:List SV->Prop) (cs:List Value) (B':Bd C W) (vs:List Value) (l:List SV):Prop where
 le:B.le B'
 ok:OkL B'.D vs
 den:denL B'.φ vs=cs
 rel:rel l
 rl:RL B'.s.heap B'.g 0 l vs
 one:∀v∈vs,v.oneCell'=true
theorem Got.len {B B':Bd C W} {rel:List SV->Prop} {cs vs:List Value} {l:List SV} (h:Got C W B rel cs B' vs l):vs.length=cs.length/\l.length=cs.length:=by
 have h1:vs.length=cs.length:=by rw [<-h.den,denL_map,List.length_map]
 exact ⟨h1,by rw [h.rl.1,h1]⟩
theorem Got.up {B B' B'':Bd C W} {rel:List SV->Prop} {cs vs:List Value} {l:List SV} (h:Got C W B rel cs B' vs l) (hle:B'.le B''):Got C W B rel cs B'' vs l:=
 ⟨h.le.trans hle,(hle.ok h.ok).1,(hle.ok h.ok).2.trans h.den,h.rel,h.rl.mono (hle.grow 0),h.one⟩
theorem Got.nil (B:Bd C W) {rel:List SV->Prop} (h:rel []):Got C W B rel [] B [] []:=⟨.refl B,trivial,rfl,h,.nil,fun v h=>by cases h⟩
theorem OkL_append {D:Nat->Prop} {a b:List Value}:OkL D (a++b)↔OkL D a/\OkL D b:=by
 simp only [OkL_iff,List.mem_append]
 exact ⟨fun h=>⟨fun v hv=>h v (.inl hv),fun v hv=>h v (.inr hv)⟩,fun h v hv=>hv.elim (h.1 v) (h.2 v)⟩
theorem Got.append {B B1 B2:Bd C W} {r1 r2 rel:List SV->Prop} {c1 c2 v1 v2:List Value} {l1 l2:List SV} (h1:Got C W B r1 c1 B1 v1 l1) (h2:Got C W B1 r2 c2 B2 v2 l2) (hr:rel (l1++l2)):
 Got C W B rel (c1++c2) B2 (v1++v2) (l1++l2):=by
 have h1':=h1.up h2.le
 refine ⟨h1'.le,OkL_append.2 ⟨h1'.ok,h2.ok⟩, ?_,hr,h1'.rl.append h2.rl,fun v hv=>(List.mem_append.1 hv).elim (h1.one v) (h2.one v)⟩
 rw [denL_map,List.map_append,<-denL_map,<-denL_map,h1'.den,h2.den]
theorem cells_at {w:World} {base:Nat} {a:Addr} {n:Nat} {cs:List Value} (h:w.cells? base a n=some cs) (hn:0<n):
 a.spot=none/\∃c el fr,w.heap[a.block]? =some (.cells c el fr)/\a.off+n<=c.size/\cs.length=n/\∀j,j<n->cs[j]? =c[a.off+j]? :=by
 unfold World.cells? at h
 split at h
 case isFalse=>cases h
 have hlen:cs.length=n:=by simpa using mapM_some_length h
 have hget:∀i,i<n->w.cell? (a.add i)=cs[i]? :=fun i hi=>mapM_some_get h i i (by simp [hi])
 have h0:=hget 0 hn
 have ha:a.add 0=a:=by simp [Addr.add]
 rw [ha,List.getElem?_eq_getElem (by omega)] at h0
 unfold World.cell? at h0
 split at h0
 case h_2=>cases h0
 rename_i c el fr hc
 have hsp:a.spot=none:=by
  cases hs:a.spot with
  | none=>rfl
  | some k=>rw [hs] at h0;simp at h0
 have hj:∀j,j<n->cs[j]? =c[a.off+j]? :=by
  intro j hj
  have:=hget j hj
  rw [<-this]
  by_cases e:j=0
  · subst e
    rw [ha]
    simp only [World.cell?,hc,hsp,Option.isSome_none,Bool.false_eq_true,if_false,Nat.add_zero]
  · have:a.add j={a with off:=a.off+j,spot:=none}:=by simp [Addr.add,e]
    rw [this]
    simp only [World.cell?,hc,Option.isSome_none,Bool.false_eq_true,if_false]
 refine ⟨hsp,c,el,fr,hc, ?_,hlen,hj⟩
 have h1:=hj (n-1) (by omega)
 rw [List.getElem?_eq_getElem (by omega)] at h1
 have h2:=(Array.getElem?_eq_some_iff.1 h1.symm).1
 omega
def flatV {α:Type} (f:Nat->List α):Nat->List α
 | 0=>[]
 | m+1=>flatV f m++f m
theorem flatV_len {α:Type} {f:Nat->List α} {sz:Nat}:∀{m:Nat},(∀i,i<m->(f i).length=sz)->(flatV f m).length=m*sz
 | 0,_=>by simp [flatV]
 | m+1,h=>by
   have ih:(flatV f m).length=m*sz:=flatV_len fun i hi=>h i (by omega)
   simp only [flatV,List.length_append,ih,h m (by omega),Nat.add_mul,Nat.one_mul]
theorem flatV_get {α:Type} {f:Nat->List α} {sz:Nat}:∀{m:Nat},(∀i,i<m->(f i).length=sz)->∀i j,i<m->j<sz->(flatV f m)[i*sz+j]? =(f i)[j]?
 | 0,_,i,j,hi,hj=>by omega
 | m+1,h,i,j,hi,hj=>by
   have hl:(flatV f m).length=m*sz:=flatV_len fun i hi=>h i (by omega)
   simp only [flatV]
   by_cases e:i<m
   · have hlt:i*sz+j<m*sz:=by
      have:(i+1)*sz<=m*sz:=Nat.mul_le_mul_right sz e
      rw [Nat.add_mul,Nat.one_mul] at this
      omega
     rw [List.getElem?_append_left (by omega)]
     exact flatV_get (fun i hi=>h i (by omega)) i j e hj
   · obtain rfl:i=m:=by omega
     rw [List.getElem?_append_right (by omega),hl]
     congr 1
     omega
theorem flatV_mem {α:Type} {f:Nat->List α} {v:α}:∀{m:Nat},v∈flatV f m->∃i,i<m/\v∈f i
 | 0,h=>by cases h
 | m+1,h=>by
   simp only [flatV,List.mem_append] at h
   rcases h with h | h
   · obtain ⟨i,hi,hv⟩:=flatV_mem h
     exact ⟨i,by omega,hv⟩
   · exact ⟨m,by omega,h⟩
theorem top_list {rel:Nat->List SV->Prop} {cs:Nat->List Value}:∀(m:Nat) (B:Bd C W),(∀i,i<m->∀B:Bd C W,∃B' vs l,Got C W B (rel i) (cs i) B' vs l)->
 ∃(B':Bd C W) (vs:Nat->List Value) (l:Nat->List SV),B.le B'/\∀i,i<m->Got C W B (rel i) (cs i) B' (vs i) (l i)
 | 0,B,_=>⟨B,fun _=>[],fun _=>[],.refl B,fun i hi=>by omega⟩
 | m+1,B,h=>by
   obtain ⟨B1,vs,l,h1,h2⟩:=top_list m B fun i hi=>h i (by omega)
   obtain ⟨B2,v,l',h3⟩:=h m (by omega) B1
   refine ⟨B2,fun i=>if i=m then v else vs i,fun i=>if i=m then l' else l i,h1.trans h3.le,fun i hi=> ?_⟩
   by_cases e:i=m
   · subst e
     simp only [if_pos]
     exact ⟨h1.trans h3.le,h3.ok,h3.den,h3.rel,h3.rl,h3.one⟩
   · simp only [if_neg e]
     exact (h2 i (by omega)).up h3.le
variable {enc:TypeId×Value->H} {base:Nat} {sp:Nat->Bool} {held:Bool}
theorem top_fields (hC:CxOk C P) {rec:TypeId->Bool} {recD:TypeId->DataW H->List SV->Prop} {fuel:Nat} (cs:List Value)
 (ih:∀t,rec t=true->∀(cs:List Value) (d:DataW H) (ps:List MemPlace) (B:Bd C W),DataW.trod enc P W base sp held fuel t cs=some (d,ps)->∃B' vs l,Got C W B (recD t d) cs B' vs l):
 ∀(fs:List Field) (off:Nat) (xs:List (DataW H×List MemPlace)) (B:Bd C W),plainF C rec fs off cs.length=true->off<=cs.length->xs.length=fs.length->
  (∀(i:Nat) (f:Field),fs[i]? =some f->DataW.trod enc P W base sp held fuel f.type ((cs.drop f.offset).take (P.cellsOf f.type))=xs[i]?)->
  ∃B' vs l,Got C W B (isDF C recD fs (xs.map (·.1))) (cs.drop off) B' vs l
 | [],off,xs,B,hp,ho,hx,h=>by
   simp only [plainF] at hp
   have:=Nat.eq_of_beq_eq_true hp
   subst this
   have:xs=[]:=List.length_eq_zero_iff.1 hx
   subst this
   rw [List.drop_length]
   exact ⟨B,[],[],Got.nil B rfl⟩
 | f::r,off,xs,B,hp,ho,hx,h=>by
   simp only [plainF,Bool.and_eq_true] at hp
   obtain ⟨hp1,hp2⟩:=hp
   have hof:=Nat.eq_of_beq_eq_true hp1
   split at hp2
   case h_2=>cases hp2
   rename_i sz hsz
   simp only [Bool.and_eq_true] at hp2
   cases xs with
   | nil=>cases hx
   | cons x xs=>
     have h0:=h 0 f rfl
     simp only [List.getElem?_cons_zero] at h0
     rw [size_of hC hsz,hof] at h0
     obtain ⟨B1,v1,l1,g1⟩:=ih f.type hp2.1 _ x.1 x.2 B h0
     have hle:off+sz<=cs.length:=plainF_le hp2.2
     obtain ⟨B2,v2,l2,g2⟩:=top_fields hC cs ih r (off+sz) xs B1 hp2.2 hle (by simpa using hx) (fun i f' hf=>by
      have:=h (i+1) f' (by simpa using hf)
      simpa using this)
     have e:cs.drop off=(cs.drop off).take sz++cs.drop (off+sz):=by
      rw [<-List.drop_drop,List.take_append_drop]
     refine ⟨B2,v1++v2,l1++l2, ?_⟩
     rw [e]
     exact g1.append g2 ⟨l1,l2,rfl,g1.rel,g2.rel⟩
where
 plainF_le {C:Cx} {rec:TypeId->Bool}:∀{fs:List Field} {off tot:Nat},plainF C rec fs off tot=true->off<=tot
  | [],off,tot,h=>by simp only [plainF] at h;have:=Nat.eq_of_beq_eq_true h;omega
  | f::r,off,tot,h=>by
    simp only [plainF,Bool.and_eq_true] at h
    have h2:=h.2
    split at h2
    · simp only [Bool.and_eq_true] at h2
      have:=plainF_le h2.2
      omega
    · cases h2
theorem top_arr (hC:CxOk C P) {e:TypeId} {sz:Nat} (hsz:C.size e=some sz) {recD:DataW H->List SV->Prop} {fuel:Nat} (cs:List Value)
 (ih:∀(cs:List Value) (d:DataW H) (ps:List MemPlace) (B:Bd C W),DataW.trod enc P W base sp held fuel e cs=some (d,ps)->∃B' vs l,Got C W B (recD d) cs B' vs l):
 ∀(m k:Nat) (xs:List (DataW H×List MemPlace)) (B:Bd C W),cs.length=(k+m)*sz->xs.length=m->
  (∀(i:Nat),i<m->DataW.trod enc P W base sp held fuel e ((cs.drop ((k+i)*P.cellsOf e)).take (P.cellsOf e))=xs[i]?)->
  ∃B' vs l,Got C W B (isDA recD m (xs.map (·.1))) (cs.drop (k*sz)) B' vs l
 | 0,k,xs,B,hl,hx,h=>by
   have:xs=[]:=List.length_eq_zero_iff.1 hx
   subst this
   rw [Nat.add_zero] at hl
   rw [<-hl,List.drop_length]
   exact ⟨B,[],[],Got.nil B rfl⟩
 | m+1,k,xs,B,hl,hx,h=>by
   cases xs with
   | nil=>cases hx
   | cons x xs=>
     have h0:=h 0 (by omega)
     simp only [List.getElem?_cons_zero,Nat.add_zero] at h0
     rw [size_of hC hsz] at h0
     obtain ⟨B1,v1,l1,g1⟩:=ih _ x.1 x.2 B h0
     obtain ⟨B2,v2,l2,g2⟩:=top_arr hC hsz cs ih m (k+1) xs B1 (by rw [hl];congr 1;omega) (by simpa using hx) (fun i hi=>by
      have:=h (i+1) (by omega)
      rw [show k+(i+1)=k+1+i by omega] at this
      simpa using this)
     have e:cs.drop (k*sz)=(cs.drop (k*sz)).take sz++cs.drop ((k+1)*sz):=by
      rw [Nat.add_mul,Nat.one_mul,<-List.drop_drop,List.take_append_drop]
     refine ⟨B2,v1++v2,l1++l2, ?_⟩
     rw [e]
     exact g1.append g2 ⟨l1,l2,rfl,g1.rel,g2.rel⟩
theorem Bd.isH {B:Bd C W} {id:Nat} {b:Blk} (h:B.s.heap.get id=some b):B.g.H id:=by
 show (B.s.heap.get id).isSome=true
 rw [h];rfl
theorem u8_of {e:TypeId} (h:isU8 C e=true):C.und e=some (.int .u8)/\C.size e=some 1:=by
 unfold isU8 at h
 split at h
 · rename_i hu
   split at h
   · rename_i n hn
     have:=Nat.eq_of_beq_eq_true h
     subst this
     exact ⟨hu,hn⟩
   · cases h
 · cases h
theorem top_trod (hC:CxOk C P) (hsp:∀b,sp b=true):∀(n:Nat) (t:TypeId),plainT C n t=true->∀{fuel:Nat} (cs:List Value) (d:DataW H) (ps:List MemPlace) (B:Bd C W),
 DataW.trod enc P W base sp held fuel t cs=some (d,ps)->∃B' vs l,Got C W B (isD C n t d) cs B' vs l
 | 0,t,h,fuel,cs,d,ps,B,hr=>by simp [plainT] at h
 | n+1,t,h,fuel,cs,d,ps,B,hr=>by
   have one:∀{v:Value} {a:SV},cs=[v]->(∀φ,den φ v=v)->(∀D,Ok D v)->(∀(h:T Blk) (g:Gh),RV h g 0 a v)->v.oneCell'=true->isD C (n+1) t d [a]->∃B' vs l,Got C W B (isD C (n+1) t d) cs B' vs l:=by
    intro v a hcs h1 h2 h3 h4 h5
    refine ⟨B,[v],[a],.refl B,⟨h2 _,trivial⟩, ?_,h5,.cons (h3 _ _) .nil,fun u hu=> ?_⟩
    · rw [hcs];simp only [denL,h1]
    · simp only [List.mem_singleton] at hu;subst hu;exact h4
   simp only [plainT] at h
   split at h
   · -- bool
     rename_i hu
     obtain ⟨b,hcs,hx⟩:=DataW.trod_bool (und_of hC hu) hr
     cases hx
     exact one (a:= .bool b) hcs (fun φ=>by simp [den]) (fun D=>by simp [Ok]) (fun h g=> .bool b) rfl (by simp only [isD,hu];exact ⟨b,rfl,rfl⟩)
   · rename_i k hu
     obtain ⟨x,hcs,hx,hwf⟩:=DataW.trod_int (und_of hC hu) hr
     cases hx
     exact one (a:= .int k x) hcs (fun φ=>by simp [den]) (fun D=>by simp [Ok]) (fun h g=> .int k x) rfl (by simp only [isD,hu];exact ⟨x,rfl,rfl,hwf⟩)
   · rename_i hu
     obtain ⟨s,hcs,hx,hl⟩:=DataW.trod_string (und_of hC hu) hr
     cases hx
     refine one (a:= .str s.data.toList) hcs (fun φ=>by simp [den]) (fun D=>by simp [Ok]) (fun h g=> ?_) rfl (by simp only [isD,hu];exact ⟨_,rfl,rfl⟩)
     have:=RV.str (h:=h) (g:=g) (N:=0) s.data.toList
     exact this
   · -- slice
     rename_i e hu
     split at h
     case h_2=>cases h
     rename_i sz hsz
     simp only [Bool.and_eq_true,Nat.blt_eq] at h
     obtain ⟨hpos,hpl⟩:=h
     rcases Deep.open_slice (und_of hC hu) hr with ⟨hcs,hx⟩ | ⟨a,len,cap,m,n',Dd,Pl,hcs,hb,hlc,hcap,hm,hx,hel⟩
     · -- nil
       cases hx
       cases hu8:isU8 C e with
       | true=>exact one (a:= .bytes 0 false []) hcs (fun φ=>by simp [den]) (fun D=>by simp [Ok]) (fun h g=> .bytesN 0) rfl (by simp only [isD,hu,hsz,hu8,cond_true];exact ⟨[],rfl,.inl (by simp)⟩)
       | false=>exact one (a:= .imm 0 false 0 sz fun _=>[]) hcs (fun φ=>by simp [den]) (fun D=>by simp [Ok]) (fun h g=> .immN 0 sz _) rfl (by simp only [isD,hu,hsz,hu8,cond_false];exact ⟨0,_,rfl,.inl (by simp)⟩)
     · cases hx
       rw [hsp,if_pos rfl] at hm
       subst hm
       rw [size_of hC hsz] at hel
       have hpl0:∀i,i<m->a.spot=none/\∃c el fr,W.heap[a.block]? =some (.cells c el fr)/\a.off+i*sz+sz<=c.size/\∃cs',W.cells? base (a.add (i*sz)) sz=some cs'/\cs'.length=sz/\(∀j,j<sz->cs'[j]? =c[a.off+i*sz+j]?)/\DataW.trod enc P W base sp held n' e cs'=some (Dd i,Pl i):=by
        intro i hi
        obtain ⟨cs0,k1,_⟩:=hel 0 (by omega)
        have ha0:a.add (0*sz)=a:=by simp [Addr.add]
        rw [ha0] at k1
        have hs0:=(cells_at k1 hpos).1
        obtain ⟨cs',k2,k3⟩:=hel i hi
        obtain ⟨_,c,el,fr,k4,k5,k6,k7⟩:=cells_at k2 hpos
        have e1:(a.add (i*sz)).block=a.block:=by unfold Addr.add;split<;>rfl
        have e2:(a.add (i*sz)).off=a.off+i*sz:=by
         unfold Addr.add
         split
         · rename_i h0;rw [h0];rfl
         · rfl
        rw [e1] at k4
        rw [e2] at k5 k7
        exact ⟨hs0,c,el,fr,k4,k5,cs',k2,k6,k7,k3⟩
       by_cases hl0:len=0
       · -- empty
         subst hl0
         obtain ⟨B',hle,hD,hφ,hheap⟩:=B.name ⟨a.block,a.off,m,a.spot⟩
         have hden:den B'.φ (.slice (some ⟨B.s.next,0,some 0⟩) 0 1)= .slice (some a) 0 m:=by
          simp only [den,hφ,spotOf,spOf]
          by_cases hm0:m=0
          · subst hm0
            simp
          · have hspn:=(hpl0 0 (by omega)).1
            simp only [if_neg hm0]
            obtain ⟨b,o,s⟩:=a
            simp only at hspn
            subst hspn
            simp
         have fin:∀{x:SV},(∀(h:T Blk) (g:Gh),RV h g 0 x (.slice (some ⟨B.s.next,0,some 0⟩) 0 1))->isD C (n+1) t (.slice ((List.range 0).map Dd) ((List.range (m-0)).map fun j=>Dd (0+j))) [x]->
          ∃B' vs l,Got C W B (isD C (n+1) t (.slice ((List.range 0).map Dd) ((List.range (m-0)).map fun j=>Dd (0+j)))) cs B' vs l:=by
          intro x hx hd
          refine ⟨B',[.slice (some ⟨B.s.next,0,some 0⟩) 0 1],[x],hle,⟨⟨trivial,hD⟩,trivial⟩, ?_,hd,.cons (hx _ _) .nil,fun u hu=> ?_⟩
          · rw [hcs];simp only [denL,hden]
          · simp only [List.mem_singleton] at hu;subst hu;rfl
         cases hu8:isU8 C e with
         | true=>exact fin (x:= .bytes 0 false []) (fun h g=> .bytesE 0 false _ (.inr ⟨_,_,_,rfl⟩)) (by simp only [isD,hu,hsz,hu8,cond_true];exact ⟨[],rfl,.inr ⟨_,rfl⟩⟩)
         | false=>exact fin (x:= .imm 0 false 0 sz fun _=>[]) (fun h g=> .immE 0 false sz _ _ (.inr ⟨_,_,_,rfl⟩)) (by simp only [isD,hu,hsz,hu8,cond_false];exact ⟨0,_,rfl,.inr ⟨_,_,rfl,by simp,fun i e' he=>by simp at he⟩⟩)
       · obtain ⟨hspn,c,el,fr,hW,_,_⟩:=hpl0 0 (by omega)
         have elems:∀i,i<len->∀B:Bd C W,∃B' vs l,Got C W B (isD C n e (Dd i)) ((c.toList.drop (a.off+i*sz)).take sz) B' vs l:=by
          intro i hi B
          obtain ⟨_,c',el',fr',k1,k2,cs',k3,k4,k5,k6⟩:=hpl0 i (by omega)
          rw [hW] at k1;cases k1
          have:cs'=(c.toList.drop (a.off+i*sz)).take sz:=by
           apply List.ext_getElem?
           intro j
           by_cases hj:j<sz
           · rw [k5 j hj,List.getElem?_take_of_lt hj,List.getElem?_drop,Array.getElem?_toList]
           · rw [List.getElem?_eq_none (by omega),List.getElem?_eq_none (by rw [List.length_take];omega)]
          rw [<-this]
          exact top_trod hC hsp n e hpl cs' _ _ B k6
         obtain ⟨B1,vss,ls,hle1,hg⟩:=top_list len B elems
         have hsz1:∀i,i<len->(vss i).length=sz/\(ls i).length=sz:=by
          intro i hi
          obtain ⟨_,c',el',fr',k1,k2,_⟩:=hpl0 i (by omega)
          rw [hW] at k1;cases k1
          have h1:=(hg i hi).len
          have h2:((c.toList.drop (a.off+i*sz)).take sz).length=sz:=by
           rw [List.length_take,List.length_drop,Array.length_toList]
           omega
          rw [h2] at h1
          exact h1
         have hcell:∀i j v,i<len->j<sz->(vss i)[j]? =some v->c[a.off+(i*sz+j)]? =some (den B1.φ v):=by
          intro i j v hi hj hv
          have h1:=(hg i hi).den
          have h2:(denL B1.φ (vss i))[j]? =some (den B1.φ v):=by rw [denL_map,List.getElem?_map,hv];rfl
          rw [h1,List.getElem?_take_of_lt hj,List.getElem?_drop,Array.getElem?_toList] at h2
          rw [<-h2]
          congr 1
          omega
         have hflen:(flatV vss len).length=len*sz:=flatV_len fun i hi=>(hsz1 i hi).1
         have hok:OkL B1.D (flatV vss len):=by
          rw [OkL_iff]
          intro v hv
          obtain ⟨i,hi,hv⟩:=flatV_mem hv
          exact (OkL_iff _ _).1 (hg i hi).ok v hv
         have hone:∀v∈flatV vss len,v.oneCell'=true:=by
          intro v hv
          obtain ⟨i,hi,hv⟩:=flatV_mem hv
          exact (hg i hi).one v hv
         have split:∀k,k<len*sz->∃i j,i<len/\j<sz/\k=i*sz+j:=fun k hk=>by
          refine ⟨k/sz,k%sz, ?_,Nat.mod_lt _ hpos, ?_⟩
          · exact Nat.div_lt_of_lt_mul (by rw [Nat.mul_comm];exact hk)
          · rw [Nat.mul_comm];exact (Nat.div_add_mod k sz).symm
         have hend:a.off+(flatV vss len).length<=c.size:=by
          obtain ⟨_,c',el',fr',k1,k2,_⟩:=hpl0 (len-1) (by omega)
          rw [hW] at k1;cases k1
          rw [hflen]
          have:len*sz=(len-1)*sz+sz:=by
           rw [<-Nat.succ_mul];congr 1;omega
          omega
         obtain ⟨B2,hle2,hblk,hD,hφ⟩:=B1.add hW hsz hend hok (fun k v hk=>by
          have hkl:k<len*sz:=by rw [<-hflen];exact (List.getElem?_eq_some_iff.1 hk).1
          obtain ⟨i,j,hi,hj,rfl⟩:=split k hkl
          rw [flatV_get (fun i hi=>(hsz1 i hi).1) i j hi hj] at hk
          exact hcell i j v hi hj hk)
         have hden:den B2.φ (.slice (some ⟨B1.s.next,0,none⟩) len (2*m))= .slice (some a) len m:=by
          simp only [den,hφ,spotOf,spOf]
          obtain ⟨b,o,s⟩:=a
          simp only at hspn
          subst hspn
          have e1:2*m/2=m:=by omega
          have e2:2*m%2=0:=by omega
          simp [e1,e2]
         have hcapOf:capOf (2*m)=m:=by unfold capOf;omega
         have fin:∀{x:SV},RV B2.s.heap B2.g 0 x (.slice (some ⟨B1.s.next,0,none⟩) len (2*m))->isD C (n+1) t (.slice ((List.range len).map Dd) ((List.range (m-len)).map fun j=>Dd (len+j))) [x]->
          ∃B' vs l,Got C W B (isD C (n+1) t (.slice ((List.range len).map Dd) ((List.range (m-len)).map fun j=>Dd (len+j)))) cs B' vs l:=by
          intro x hx hd
          refine ⟨B2,[.slice (some ⟨B1.s.next,0,none⟩) len (2*m)],[x],hle1.trans hle2,⟨⟨trivial,hD⟩,trivial⟩, ?_,hd,.cons hx .nil,fun u hu=> ?_⟩
          · rw [hcs];simp only [denL,hden]
          · simp only [List.mem_singleton] at hu;subst hu;rfl
         cases hu8:isU8 C e with
         | true=>
           obtain ⟨hue,hse⟩:=u8_of hu8
           rw [hsz] at hse;cases hse
           have num:∀i,i<len->∃x:Int,Dd i= .lit (.int .u8 x)/\vss i=[.int .u8 x]/\0<=x/\x<256:=by
            intro i hi
            have h1:=(hg i hi).rel
            cases n with
            | zero=>exact h1.elim
            | succ n=>
              simp only [isD,hue] at h1
              obtain ⟨x,e1,e2,e3⟩:=h1
              refine ⟨x,e1, ?_, ?_⟩
              · have h2:=(hg i hi).rl
                rw [e2] at h2
                have hlen:=(hsz1 i hi).1
                cases hv:vss i with
                | nil=>rw [hv] at hlen;cases hlen
                | cons v r=>
                  rw [hv] at hlen h2
                  have:r=[]:=List.length_eq_zero_iff.1 (by simpa using hlen)
                  subst this
                  have:=h2.2 0 _ _ rfl rfl
                  cases this
                  rfl
              · simp only [Lit.wf,Bool.and_eq_true,decide_eq_true_eq,IntKind.min,IntKind.max] at e3
                simp [IntKind.signed,IntKind.bits] at e3
                omega
           let bs:List UInt8:=(List.range len).map fun i=>match Dd i with
            | .lit (.int _ x)=>UInt8.ofNat x.toNat
            | _=>0
           have hbl:bs.length=len:=by simp [bs]
           have hbg:∀i b,bs[i]? =some b->i<len/\∃x:Int,Dd i= .lit (.int .u8 x)/\vss i=[.int .u8 x]/\x=(b.toNat:Int):=by
            intro i b hi
            have hil:i<len:=by rw [<-hbl];exact (List.getElem?_eq_some_iff.1 hi).1
            obtain ⟨x,e1,e2,e3,e4⟩:=num i hil
            refine ⟨hil,x,e1,e2, ?_⟩
            simp only [bs,List.getElem?_map,List.getElem?_range hil,Option.map_some,e1,Option.some.injEq] at hi
            subst hi
            rw [UInt8.toNat_ofNat']
            omega
           refine fin (x:= .bytes 0 false bs) ?_ ?_
           · have:=RV.bytes (h:=B2.s.heap) (g:=B2.g) (N:=0) 0 false bs B1.s.next 0 (2*m) _ e 2 none (B2.isH hblk) hblk (fun i b hi=>by
              obtain ⟨hil,x,e1,e2,e3⟩:=hbg i b hi
              have:=flatV_get (f:=vss) (sz:=1) (fun i hi=>(hsz1 i hi).1) i 0 hil (by omega)
              rw [e2] at this
              simp only [Nat.mul_one,Nat.add_zero,List.getElem?_cons_zero] at this
              rw [Nat.zero_add,this,byteV,e3]) (by rw [hcapOf,hbl];exact hlc)
             rw [hbl] at this
             exact this
           · have key:(List.range len).map Dd=bs.map fun b=> .lit (.int .u8 b.toNat):=by
              apply List.ext_getElem?
              intro i
              by_cases hi:i<len
              · simp only [List.getElem?_map,List.getElem?_range hi,Option.map_some]
                cases hb:bs[i]? with
                | none=>rw [List.getElem?_eq_none_iff] at hb;omega
                | some b=>
                  obtain ⟨_,x,e1,_,e3⟩:=hbg i b hb
                  rw [e1,e3];rfl
              · rw [List.getElem?_eq_none (by simp;omega),List.getElem?_eq_none (by simp [hbl];omega)]
             rw [key]
             simp only [isD,hu,hsz,hu8,cond_true]
             exact ⟨bs,rfl,.inr ⟨(List.range (m-len)).map fun j=>Dd (len+j),by first | rfl | simp⟩⟩
         | false=>
           refine fin (x:= .imm 0 false len sz ls) ?_ ?_
           · refine RV.imm (h:=B2.s.heap) (g:=B2.g) (N:=0) 0 false len sz ls B1.s.next 0 (2*m) _ e 2 none (fun i j=>((vss i)[j]?).getD (.bool false)) (B2.isH hblk) hblk (by rw [hflen];omega) (fun i hi=>(hsz1 i hi).2) (fun i j hi hj=> ?_) (fun i j x hi hx=> ?_) (by rw [hcapOf];exact hlc)
             · have h1:=flatV_get (f:=vss) (sz:=sz) (fun i hi=>(hsz1 i hi).1) i j hi hj
               have hj':j<(vss i).length:=by rw [(hsz1 i hi).1];exact hj
               rw [Nat.zero_add,h1,List.getElem?_eq_getElem hj']
               exact ⟨rfl,(hg i hi).one _ (List.getElem_mem hj')⟩
             · have hj:j<(ls i).length:=(List.getElem?_eq_some_iff.1 hx).1
               have hj':j<(vss i).length:=by rw [(hsz1 i hi).1,<-(hsz1 i hi).2];exact hj
               rw [List.getElem?_eq_getElem hj']
               exact ((hg i hi).rl.mono (hle2.grow 0)).2 j x _ hx (List.getElem?_eq_getElem hj')
           · simp only [isD,hu,hsz,hu8,cond_false]
             refine ⟨len,ls,rfl,.inr ⟨(List.range len).map Dd,(List.range (m-len)).map fun j=>Dd (len+j),by first | rfl | simp,by simp,fun i e' he=> ?_⟩⟩
             have hi:i<len:=by
              have:=(List.getElem?_eq_some_iff.1 he).1
              simpa using this
             simp only [List.getElem?_map,List.getElem?_range hi,Option.map_some,Option.some.injEq] at he
             subst he
             exact (hg i hi).rel
   · -- struct
     rename_i fs hu
     split at h
     case h_2=>cases h
     rename_i sz hsz
     obtain ⟨xs,n',_,hx,hl,hxl,hf⟩:=DataW.trod_struct (und_of hC hu) hr
     cases hx
     rw [size_of hC hsz] at hl
     rw [<-hl] at h
     obtain ⟨B',vs,l,hg⟩:=top_fields hC (sp:=sp) (recD:=isD C n) cs (fun t ht cs d ps B hr=>top_trod hC hsp n t ht cs d ps B hr) fs.toList 0 xs B h (Nat.zero_le _) (by simpa using hxl) (fun i f hfi=>hf i f (by simpa using hfi))
     rw [List.drop_zero] at hg
     exact ⟨B',vs,l,hg.le,hg.ok,hg.den,(by simp only [isD,hu];exact ⟨_,rfl,hg.rel⟩),hg.rl,hg.one⟩
   · -- array
     rename_i m e hu
     split at h
     case h_2=>cases h
     rename_i st se hst hse
     simp only [Bool.and_eq_true] at h
     have hmul:=Nat.eq_of_beq_eq_true h.1
     subst hmul
     obtain ⟨xs,n',_,hx,hl,hxl,hf⟩:=DataW.trod_array (und_of hC hu) hr
     cases hx
     rw [size_of hC hst] at hl
     obtain ⟨B',vs,l,hg⟩:=top_arr hC hse (sp:=sp) (recD:=isD C n e) cs (fun cs d ps B hr=>top_trod hC hsp n e h.2 cs d ps B hr) m 0 xs B (by rw [hl,Nat.zero_add]) hxl (fun i hi=>by rw [Nat.zero_add];exact hf i hi)
     rw [Nat.zero_mul,List.drop_zero] at hg
     exact ⟨B',vs,l,hg.le,hg.ok,hg.den,(by simp only [isD,hu];exact ⟨_,rfl,hg.rel⟩),hg.rl,hg.one⟩
   · cases h
end
end
end Go.Eng
namespace Go.Eng
open Go.RowKit Go.ChangeShapes
section
variable {C:Cx} {P:Program} {W:World}
theorem Bd.sim (B:Bd C W):Sim C (SS.ofList []) B.s B.g B.g.H:=by
 have hl:∀id,B.g.H id->id<B.s.next:=by
  intro id hid
  have hid':(B.s.heap.get id).isSome=true:=hid
  cases hb:B.s.heap.get id with
  | none=>rw [hb] at hid';cases hid'
  | some b=>exact B.inv.2 id (B.inv.1.dom id b hb)
 refine ⟨fun l o h=> ?_,fun l l' o o' eid h=> ?_,fun id h=>h,fun id h=>h.elim,hl,fun n hn=> ?_⟩
 · simp [SS.ofList,setsO,T.get_nil] at h
 · simp [SS.ofList,setsO,T.get_nil] at h
 · obtain ⟨h1,h2⟩:=B.num n hn
   refine ⟨h1, ?_,h2⟩
   show (B.s.heap.get n).isSome=true
   cases hb:B.s.heap.get n with
   | none=>rw [hb] at h2;cases h2
   | some b=>rfl
theorem top_law (hC:CxOk C P) {f:Nat} {fn:Func} (hf:C.funcs.get f=some fn) (hb:fn.body.isSome=true) {S:FSpec} (hS:SpecOk C f S) (x:S.X) (hx:S.pre x) (ho:S.own x=[])
 (hout:S.out x= .ret (.bool true) []) (B:Bd C W) {vs:List Value} (hl:RL B.s.heap B.g 0 (S.args x) vs) (hok:OkL B.D vs):
 Calls P f (denL B.φ vs).toArray W fun e w'=>e= .returned (.bool true)/\Below W.heap.size W w':=by
 have h:=hS x hx B.s B.g B.g.H vs (by rw [ho];exact B.sim) (by rw [ho];exact hl)
 obtain ⟨out,hct,hsr⟩:=h
 rw [hout] at hsr
 obtain ⟨v,s',g',A',rfl,_,hv,_⟩:=hsr
 cases hv
 cases hct with
 | ext v s' h1 h2=>
   rw [enter_of hf hb] at h2
   cases h2
 | body fn' out M h1 h2 h3=>
   have hcall:=(recOf_sound hC M).call f vs B.s B.φ B.D W B.inv hok
   rw [h3 M (Nat.le_refl _)] at hcall
   intro cs
   obtain ⟨φ',D',w',fr,k1,k2,k3,k4,k5,k6⟩:=hcall cs
   refine ⟨.returned (.bool true),w',fr,⟨rfl,⟨k2.os,k2.tape,k2.output,k2.size,fun k hk=>k2.frame k hk fun i bi hi hw=>by rw [B.ro i bi hi] at hw;cases hw⟩⟩, ?_,k5, ?_⟩
   · simpa [Comes] using k4
   · simpa [den] using k6
theorem und_same (hC:CxOk C P) {t:TypeId} (h:(C.und t).isSome=true):C.und t=P.underlying t:=by
 cases hd:C.und t with
 | none=>rw [hd] at h;cases h
 | some d'=>exact (und_of hC hd).symm
section
variable {H:Type} {n:Nat} {t:TypeId} {d:DataW H} {l:List SV}
theorem isD_bool (hu:C.und t=some .bool) (h:isD C (n+1) t d l):∃b,d= .lit (.bool b)/\l=[.bool b]:=by simpa only [isD,hu] using h
theorem isD_int {k:IntKind} (hu:C.und t=some (.int k)) (h:isD C (n+1) t d l):∃x,d= .lit (.int k x)/\l=[.int k x]/\(Lit.int k x).wf=true:=by simpa only [isD,hu] using h
theorem isD_str (hu:C.und t=some .string) (h:isD C (n+1) t d l):∃bs,d= .lit (.string bs)/\l=[.str bs]:=by simpa only [isD,hu] using h
theorem isD_bytes {e:TypeId} {sz:Nat} (hu:C.und t=some (.slice e)) (hs:C.size e=some sz) (h8:isU8 C e=true) (h:isD C (n+1) t d l):
 ∃bs,l=[.bytes 0 false bs]/\((d= .nil/\bs=[])\/∃spare,d= .slice (bs.map fun b=> .lit (.int .u8 b.toNat)) spare):=by
 simp only [isD,hu,hs,h8,cond_true] at h;exact h
theorem isD_slice {e:TypeId} {sz:Nat} (hu:C.und t=some (.slice e)) (hs:C.size e=some sz) (h8:isU8 C e=false) (h:isD C (n+1) t d l):
 ∃m f,l=[.imm 0 false m sz f]/\((d= .nil/\m=0)\/∃elems spare,d= .slice elems spare/\m=elems.length/\∀i e',elems[i]? =some e'->isD C n e e' (f i)):=by
 simp only [isD,hu,hs,h8,cond_false] at h;exact h
theorem isD_struct {fs:Array Field} (hu:C.und t=some (.struct fs)) (h:isD C (n+1) t d l):∃ds,d= .agg ds/\isDF C (isD C n) fs.toList ds l:=by simpa only [isD,hu] using h
theorem isDF_cons {rec:TypeId->DataW H->List SV->Prop} {f:Field} {r:List Field} {ds:List (DataW H)} (h:isDF C rec (f::r) ds l):∃d ds' l1 l2,ds=d::ds'/\l=l1++l2/\rec f.type d l1/\isDF C rec r ds' l2:=by
 cases ds with
 | nil=>exact h.elim
 | cons d ds'=>obtain ⟨l1,l2,h1,h2,h3⟩:=h;exact ⟨d,ds',l1,l2,rfl,h1,h2,h3⟩
theorem isDF_nil {rec:TypeId->DataW H->List SV->Prop} {ds:List (DataW H)} (h:isDF C rec [] ds l):ds=[]/\l=[]:=by
 cases ds with
 | nil=>exact ⟨rfl,h⟩
 | cons d ds'=>exact h.elim
def isArg (C:Cx) (n:Nat) (t:TypeId) (d:DataW H) (a:SV):Prop:=match C.und t with
 | some (.struct _)=>∃l,a= .agg l/\isD C n t d l
 | some (.array _ _)=>∃l,a= .agg l/\isD C n t d l
 | _=>isD C n t d [a]
def isArgs (C:Cx) (n:Nat):List TypeId->List (DataW H)->List SV->Prop
 | [],[],[]=>True
 | t::ts,d::ds,a::as=>isArg C n t d a/\isArgs C n ts ds as
 | _,_,_=>False
theorem isArgs_cons {ts:List TypeId} {ds:List (DataW H)} {av:List SV} (h:isArgs C n (t::ts) ds av):∃d ds' a av',ds=d::ds'/\av=a::av'/\isArg C n t d a/\isArgs C n ts ds' av':=by
 cases ds with
 | nil=>exact h.elim
 | cons d ds'=>
   cases av with
   | nil=>exact h.elim
   | cons a av'=>exact ⟨d,ds',a,av',rfl,rfl,h.1,h.2⟩
theorem isArgs_nil {ds:List (DataW H)} {av:List SV} (h:isArgs C n [] ds av):ds=[]/\av=[]:=by
 cases ds with
 | nil=>cases av with
   | nil=>exact ⟨rfl,rfl⟩
   | cons a av'=>exact h.elim
 | cons d ds'=>exact h.elim
end
theorem RL.agg {h:T Blk} {g:Gh} {N:Nat} {l:List SV} {vs:List Value} (hl:RL h g N l vs):RV h g N (.agg l) (.agg ⟨vs⟩):= .agg l vs hl.1 hl.2
variable {H:Type} {enc:TypeId×Value->H} {base:Nat} {sp:Nat->Bool} {held:Bool}
theorem top_arg (hC:CxOk C P) (hsp:∀b,sp b=true) {n:Nat} {t:TypeId} (hp:plainT C n t=true) {v:Value} {d:DataW H} {ps:List MemPlace} (B:Bd C W)
 (hval:Value.okWide P W .any base t v) (h:DataW.Trod enc P W 0 sp held t v d ps):
 ∃(B':Bd C W) (v':Value) (a:SV),B.le B'/\Ok B'.D v'/\den B'.φ v'=v/\RV B'.s.heap B'.g 0 a v'/\isArg C n t d a:=by
 obtain ⟨fuel,h⟩:=h
 have agg:∀cs,v= .agg cs->(∀a,(∃l,a= .agg l/\isD C n t d l)->isArg C n t d a)->∃(B':Bd C W) (v':Value) (a:SV),B.le B'/\Ok B'.D v'/\den B'.φ v'=v/\RV B'.s.heap B'.g 0 a v'/\isArg C n t d a:=by
  intro cs hv hi
  subst hv
  obtain ⟨B',vs,l,hg⟩:=top_trod hC hsp n t hp _ d ps B h
  refine ⟨B',.agg ⟨vs⟩,.agg l,hg.le, ?_, ?_,hg.rl.agg,hi _ ⟨l,rfl,hg.rel⟩⟩
  · simp only [Ok,OkA];exact hg.ok
  · simp only [den,denA,hg.den,Value.cells]
 have one:v.cells.toList=[v]->(∀a,isD C n t d [a]->isArg C n t d a)->∃(B':Bd C W) (v':Value) (a:SV),B.le B'/\Ok B'.D v'/\den B'.φ v'=v/\RV B'.s.heap B'.g 0 a v'/\isArg C n t d a:=by
  intro hv hi
  rw [hv] at h
  obtain ⟨B',vs,l,hg⟩:=top_trod hC hsp n t hp _ d ps B h
  obtain ⟨h1,h2⟩:=hg.len
  match vs,h1 with
  | [v'],_=>
    match l,h2 with
    | [a],_=>
      refine ⟨B',v',a,hg.le,hg.ok.1, ?_,hg.rl.2 0 a v' rfl rfl,hi a hg.rel⟩
      have:=hg.den
      simp only [denL] at this
      exact List.cons.inj this |>.1
 cases n with
 | zero=>simp [plainT] at hp
 | succ n=>
   simp only [plainT] at hp
   split at hp
   · rename_i hu
     obtain ⟨b,rfl⟩:=WideShapes.okWide_bool (und_of hC hu) hval
     exact one rfl (fun a h=>by simpa only [isArg,hu] using h)
   · rename_i k hu
     obtain ⟨b,rfl⟩:=WideShapes.okWide_int (und_of hC hu) hval
     exact one rfl (fun a h=>by simpa only [isArg,hu] using h)
   · rename_i hu
     obtain ⟨b,rfl⟩:=WideShapes.okWide_string (und_of hC hu) hval
     exact one rfl (fun a h=>by simpa only [isArg,hu] using h)
   · rename_i e hu
     obtain ⟨b,c,m,rfl⟩:=WideShapes.okWide_slice (und_of hC hu) hval
     exact one rfl (fun a h=>by simpa only [isArg,hu] using h)
   · rename_i fs hu
     obtain ⟨cs,rfl,_⟩:=WideShapes.okWide_struct (und_of hC hu) hval
     exact agg cs rfl (fun a h=>by simpa only [isArg,hu] using h)
   · rename_i m e hu
     have hv:=hval
     simp only [Value.okWide,und_of hC hu] at hv
     obtain ⟨cs,rfl,_⟩:=hv
     exact agg cs rfl (fun a h=>by simpa only [isArg,hu] using h)
   · cases hp
theorem top_args (hC:CxOk C P) (hsp:∀b,sp b=true) {n:Nat}:∀(ts:List TypeId) (vs:List Value) (ds:List (DataW H)) (ps:List MemPlace) (B:Bd C W),ts.all (plainT C n)=true->
 (∀(j:Nat) t v,ts[j]? =some t->vs[j]? =some v->Value.okWide P W .any base t v)->DataW.TrodAll enc P W 0 sp held ts vs ds ps->
 ∃(B':Bd C W) (vs':List Value) (as:List SV),B.le B'/\OkL B'.D vs'/\denL B'.φ vs'=vs/\RL B'.s.heap B'.g 0 as vs'/\isArgs C n ts ds as
 | [],vs,ds,ps,B,hp,hval,h=>by
   obtain ⟨rfl,rfl,_⟩:=trodAll_nil h
   exact ⟨B,[],[],.refl B,trivial,rfl,.nil,trivial⟩
 | t::ts,vs,ds,ps,B,hp,hval,h=>by
   obtain ⟨v,vs1,d,ds1,p,q,rfl,rfl,rfl,h1,h2⟩:=trodAll_cons h
   simp only [List.all_cons,Bool.and_eq_true] at hp
   obtain ⟨B1,v',a,k1,k2,k3,k4,k5⟩:=top_arg hC hsp hp.1 B (hval 0 t v rfl rfl) h1
   obtain ⟨B2,vs',as,m1,m2,m3,m4,m5⟩:=top_args hC hsp ts vs1 ds1 q B1 hp.2 (fun j t v ht hv=>hval (j+1) t v (by simpa using ht) (by simpa using hv)) h2
   have hv1:=m1.ok (vs:=[v']) ⟨k2,trivial⟩
   refine ⟨B2,v'::vs',a::as,k1.trans m1,⟨hv1.1.1,m2⟩, ?_,.cons (k4.mono (m1.grow 0)) m4,k5,m5⟩
   have e:=hv1.2
   simp only [denL,List.cons.injEq,and_true] at e
   simp only [denL,m3,e,k3]
theorem arr_get {α:Type} {l:List α} {j:Nat} {x:α} (h:l[j]? =some x):l.toArray[j]? =some x:=by simpa using h
theorem arr_get' {α:Type} {a:Array α} {j:Nat} {x:α} (h:a.toList[j]? =some x):a[j]? =some x:=by simpa using h
def leT (a b:SV):Prop:=match a,b with
 | .agg x,.agg y=>leL x y
 | a,b=>leV a b
def leTs:List SV->List SV->Prop
 | [],[]=>True
 | a::x,b::y=>leT a b/\leTs x y
 | _,_=>False
theorem leT_rel {h:T Blk} {g:Gh} {N:Nat} (hFH:∀r id,g.In r id->g.H id) {a b:SV} {v:Value} (hl:leT a b) (hv:RV h g N b v):RV h g N a v:=by
 unfold leT at hl
 split at hl
 · rename_i x y
   cases hv with
   | agg _ vs h1 h2=>
     refine .agg x vs ((leL_len _ _ hl).trans h1) fun j a v ha hv=> ?_
     have hj:j<y.length:=by rw [<-leL_len _ _ hl];exact (List.getElem?_eq_some_iff.1 ha).1
     exact leL_rel hFH x y hl j a y[j] v ha (List.getElem?_eq_getElem hj) (h2 j _ v (List.getElem?_eq_getElem hj) hv)
 · exact leV_rel hFH a b v hl hv
theorem leTs_rel {h:T Blk} {g:Gh} {N:Nat} (hFH:∀r id,g.In r id->g.H id):∀{x y:List SV} {vs:List Value},leTs x y->RL h g N y vs->RL h g N x vs
 | [],[],vs,_,hr=>hr
 | [],_::_,_,h,_=>h.elim
 | _::_,[],_,h,_=>h.elim
 | a::x,b::y,vs,hl,hr=>by
   cases vs with
   | nil=>exact absurd hr.1 (by simp)
   | cons v vs=>
     have ih:=leTs_rel hFH hl.2 (vs:=vs) ⟨by simpa using hr.1,fun j a v ha hv=>hr.2 (j+1) a v (by simpa using ha) (by simpa using hv)⟩
     exact .cons (leT_rel hFH hl.1 (hr.2 0 b v rfl rfl)) ih
theorem Bd.hFH (B:Bd C W):∀r id,B.g.In r id->B.g.H id:=by
 intro r id h
 cases r with
 | zero=>exact h
 | succ r=>exact h.elim
theorem post_below {f:Func} {s:ChangeSpec} {apart fresh handsOn again:Bool} {W':World} {args:Array Value} {v:Value} {ds gs:List (DataW H)} {before pa pv:List MemPlace}
 (hW:DataW.Whole enc P f.params.toList s.vars apart W args.toList ds gs before)
 (hres:∀(b:Nat) (sp:Nat->Bool) (hd:Bool),DataW.TrodAll enc P W' b sp hd f.resultTypes.toList (v.resultList f.resultTypes.size) (s.fn H (ds++gs)).results [])
 (hargs:∀sp:Nat->Bool,(∀p∈before,sp p.block=true)->DataW.TrodAll enc P W' 0 sp true f.params.toList args.toList (s.fn H (ds++gs)).args pa)
 (hvars:∀sp:Nat->Bool,(∀p∈before,sp p.block=true)->DataW.TrodVars enc P W' sp s.vars (s.fn H (ds++gs)).vars pv)
 (hps:before=pa++pv) (hk:Below W.heap.size W W')
 (hok:∀(j:Nat) (t:TypeId) (r:Value),f.resultTypes[j]? =some t->(v.resultList f.resultTypes.size)[j]? =some r->Value.okWide P W' .any 0 t r):
 s.post enc P f apart fresh handsOn again W args v W':=by
 have hold:∀p∈before,(fun b=>decide (b<W.heap.size)) p.block=true:=fun p hp=>by simpa using hW.lt p hp
 have hfz:∀p∈before,W'.heap[p.block]? =W.heap[p.block]? :=fun p hp=>hk.block _ (hW.lt p hp)
 refine ⟨ds,gs,before,[],pa,pv,hW,hres _ _ _,hargs _ hold,hvars _ hold,hk.frame _,fun _=> ?_⟩
 obtain ⟨_,_,_,_,_,hz,hn⟩:=hW
 refine ⟨hok,_,_,([]++pa)++pv,⟨[]++pa,pv,trodAll_append (hargs _ (fun _ _=>rfl)) (hres _ _ _),hvars _ (fun _ _=>rfl),rfl, ?_, ?_⟩, ?_⟩
 · intro b off hp
   have hp':MemPlace.cell b off∈before:=by rw [hps];simpa using hp
   have:=hfz _ hp'
   have hz':=hz b off hp'
   unfold World.frozen? at hz' ⊢
   simp only [MemPlace.block] at this
   rw [this]
   exact hz'
 · intro ha
   have:=hn ha
   rw [hps] at this
   simpa using this
 · intro p hp _
   rw [hps]
   simpa using hp
theorem stays_all (hl:laidOutB P=true) {W':World} {sp':Nat->Bool}:∀(ts:List TypeId) (vs:List Value) (ds:List (DataW H)) (p:List MemPlace),(ts.all fun t=>P.readableRec t&&decide (t<P.types.size))=true->
 DataW.TrodAll enc P W 0 (fun _=>true) true ts vs ds p->(∀x∈p,W.sameAt W' x)->(∀x∈p,sp' x.block=true)->DataW.TrodAll enc P W' 0 sp' true ts vs ds p
 | [],vs,ds,p,_,h,_,_=>by
   obtain ⟨rfl,rfl,rfl⟩:=trodAll_nil h
   exact h
 | t::ts,vs,ds,p,ht,h,hs,hb=>by
   obtain ⟨v,vs1,d,ds1,p1,p2,rfl,rfl,rfl,h1,h2⟩:=trodAll_cons h
   simp only [List.all_cons,Bool.and_eq_true,decide_eq_true_eq] at ht
   refine ⟨p1,p2,WideElems.Trod_stays hl ht.1.1 ht.1.2 h1 (fun x hx=>hs x (List.mem_append_left _ hx)) (fun x hx=>hb x (List.mem_append_left _ hx)),stays_all hl ts vs1 ds1 p2 ht.2 h2 (fun x hx=>hs x (List.mem_append_right _ hx)) (fun x hx=>hb x (List.mem_append_right _ hx)),rfl⟩
theorem rel_cell {w:World} {g t:Nat} {v:Value} (hg:g<C.globals) (ht:C.size t=some 1) (hw:w.cell? ⟨g,0,none⟩=some v) (hd:∀φ,den φ v=v) (hok:∀D,Ok D v):
 Rel C (fun g=>⟨g,0,0,none⟩) (fun i=>i<C.globals) ((T.nil:T Blk).set g (.cells [v] t 2 none)) w:=by
 have key:∀i b,((T.nil:T Blk).set g (.cells [v] t 2 none)).get i=some b->i=g/\b= .cells [v] t 2 none:=by
  intro i b h
  rw [T.get_set,T.get_nil] at h
  split at h
  · rename_i e;cases h;exact ⟨e,rfl⟩
  · cases h
 obtain ⟨cs,el,fr,hc,hv⟩:∃cs el fr,w.heap[g]? =some (.cells cs el fr)/\cs[0]? =some v:=by
  unfold World.cell? at hw
  split at hw
  · rename_i cs el fr hc
    simp only [Option.isSome_none,Bool.false_eq_true,if_false] at hw
    exact ⟨cs,el,fr,hc,hw⟩
  · cases hw
 have hsz:0<cs.size:=by
  rw [Array.getElem?_eq_some_iff] at hv
  exact hv.1
 refine ⟨fun i b h=> ?_,fun i b h=> ?_,fun i j bi bj hi hj hwr=> ?_,fun g hg=>⟨hg,rfl⟩⟩
 · obtain ⟨rfl,_⟩:=key i b h;exact hg
 · obtain ⟨rfl,rfl⟩:=key i b h
   refine ⟨⟨hok _,trivial⟩,cs,_,fr,1,hc,ht, ?_, ?_, ?_⟩
   · simp;omega
   · intro j u hj
     cases j with
     | zero=>simp at hj;subst hj;rw [hd];simpa using hv
     | succ j=>simp at hj
   · intro h;omega
 · obtain ⟨rfl,rfl⟩:=key i bi hi
   simp [writable] at hwr
theorem bd_start {g t:Nat} {m:Int} (hg:g<C.globals) (hneed:C.need=some g) (ht:C.size t=some 1) (hw:W.cell? ⟨g,0,none⟩=some (.int .i64 m)):
 Nonempty (Bd C W):=by
 refine ⟨⟨⟨(T.nil:T Blk).set g (.cells [.int .i64 m] t 2 none),C.globals⟩,_,_,⟨rel_cell hg ht hw (fun _=>by simp [den]) (fun _=>by simp [Ok]),fun i h=>h⟩,fun i b h=> ?_,fun n hn=> ?_⟩⟩
 · simp only [T.get_set,T.get_nil] at h
   split at h
   · cases h;rfl
   · cases h
 · rw [hneed] at hn
   cases hn
   exact ⟨hg,by simp [T.get_set,numBlk]⟩
end
end Go.Eng
