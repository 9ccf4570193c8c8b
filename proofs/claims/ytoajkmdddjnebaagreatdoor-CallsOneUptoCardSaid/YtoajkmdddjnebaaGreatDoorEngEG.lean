import Derived.Test.YtoajkmdddjnebaaGreatDoorEngEF
import Derived.Below
import Derived.ChangeSame
import Derived.Lib.Index
import Derived.Handed
import Derived.SizedLaws
import Derived.LaidLaws
import Derived.LaidMore
import Derived.LaidHandle
import GoSem.Claims
set_option linter.unusedSimpArgs false
set_option linter.unusedVariables false
namespace Go.Eng
open Go.RowKit Go.ChangeShapes
def retTrue:FOut->Bool
 | .returned (.bool true) _ _=>true
 | _=>false
end Go.Eng
namespace Go.Eng
def T.bound {α:Type}:T α->Nat
 | .nil=>0
 | .node l _ r=>1+2*max l.bound r.bound
theorem T.lt_bound {α:Type}:∀(t:T α) (n:Nat) (a:α),t.get n=some a->n<t.bound
 | .nil,n,a,h=>by rw [T.get_nil] at h;cases h
 | .node l v r,n,a,h=>by
   cases n with
   | zero=>simp only [T.bound];omega
   | succ m=>
     simp only [T.get] at h
     cases hb:Nat.beq (m%2) 0 with
     | true=>
       rw [hb] at h
       have:=T.lt_bound l (m/2) a h
       have:=Nat.eq_of_beq_eq_true hb
       simp only [T.bound];omega
     | false=>
       rw [hb] at h
       have:=T.lt_bound r (m/2) a h
       have:=Nat.ne_of_beq_eq_false hb
       simp only [T.bound];omega
theorem table_of {α:Type} {t:T α} {A:Nat->Option α} {b:Nat} (hb:Nat.ble t.bound b=true) (h:(List.range b).map t.get=(List.range b).map A) (n:Nat) (a:α) (hn:t.get n=some a):A n=some a:=by
 have hl:n<b:=Nat.lt_of_lt_of_le (T.lt_bound t n a hn) (Nat.le_of_ble_eq_true hb)
 have:=congrArg (·[n]?) h
 simp only [List.getElem?_map,List.getElem?_range hl,Option.map_some,Option.some.injEq] at this
 rw [<-this,hn]
def T.allB {α:Type} (p:α->Bool):T α->Bool
 | .nil=>true
 | .node l v r=>(match v with
   | some a=>p a
   | none=>true)&&(T.allB p l&&T.allB p r)
theorem T.allB_get {α:Type} {p:α->Bool}:∀(t:T α) (n:Nat) (a:α),T.allB p t=true->t.get n=some a->p a=true
 | .nil,n,a,_,h=>by rw [T.get_nil] at h;cases h
 | .node l v r,n,a,hp,h=>by
   simp only [T.allB,Bool.and_eq_true] at hp
   cases n with
   | zero=>
     simp only [T.get] at h
     subst h
     exact hp.1
   | succ m=>
     simp only [T.get] at h
     cases hb:Nat.beq (m%2) 0 with
     | true=>rw [hb] at h;exact T.allB_get l (m/2) a hp.2.1 h
     | false=>rw [hb] at h;exact T.allB_get r (m/2) a hp.2.2 h
def zeroB (i:TypeInfo):Bool:=
 match i.zero with
 | some z=>Nat.beq z.cells.size i.size
 | none=>true
def nameB (fn:Func):Bool:= !fn.body.isSome|| !(fn.name== "runtime.NumGoroutine")
theorem cxOk_of {C:Cx} {P:Program} {bt bf:Nat} (ht:Nat.ble C.types.bound bt=true) (ht':(List.range bt).map C.types.get=(List.range bt).map P.info?)
 (hf:Nat.ble C.funcs.bound bf=true) (hf':(List.range bf).map C.funcs.get=(List.range bf).map (P.funcs[·]?)) (hrt:C.rt=P.rt) (hg:C.globals=P.globals.size) (hm:P.follows .mixedOrders=true)
 (hz:T.allB zeroB C.types=true) (hn:T.allB nameB C.funcs=true) {L:List Nat} (hfl:C.flat=L.foldl (fun t n=>t.set n ()) .nil)
 (hfl':L.all (fun t=> !P.stoodInHeld t&& !P.eqGuardType P.depth t)=true) (hsure:C.sure= .nil:=by rfl) (hjoin:C.joins=none:=by rfl):CxOk C P where
 join f h:=by rw [hjoin] at h;cases h
 sure f v h:=by rw [hsure,T.get_nil] at h;cases h
 info t i h:=table_of ht ht' t i h
 func f fn h:=table_of (A:=(P.funcs[·]?)) hf hf' f fn h
 rt:=hrt
 globals:=hg
 mixed:=hm
 zsize t i z h hz':=by
  have:=T.allB_get _ t i hz h
  unfold zeroB at this
  rw [hz'] at this
  exact Nat.eq_of_beq_eq_true this
 flat t h:=by
  rw [hfl] at h
  have key:∀(L:List Nat) (t0:T Unit),((L.foldl (fun t n=>t.set n ()) t0).get t).isSome=true->t∈L\/(t0.get t).isSome=true:=by
   intro L
   induction L with
   | nil=>intro t0 h;exact .inr h
   | cons n r ih=>
     intro t0 h
     rcases ih _ h with h | h
     · exact .inl (List.mem_cons_of_mem _ h)
     · rw [T.get_set] at h
       split at h
       · rename_i e;rw [e];exact .inl (List.mem_cons_self ..)
       · exact .inr h
  rcases key L .nil h with h | h
  · have:=List.all_eq_true.1 hfl' t h
    simp only [Bool.and_eq_true,Bool.not_eq_true'] at this
    exact this
  · rw [T.get_nil] at h;cases h
 name f fn h hb:=by
  have:=T.allB_get _ f fn hn h
  unfold nameB at this
  rw [hb] at this
  simpa using this
theorem CxOk.with {C:Cx} {P:Program} (hC:CxOk C P) {t:T Value} {nd:Option Nat}
 (h:∀f v,t.get f=some v->closedB v=true/\∀w,(∀n,nd=some n->∃m,w.cell? ⟨n,0,none⟩=some (.int .i64 m))->Calls P f #[] w fun e w'=>e= .returned v/\RowKit.Below w.heap.size w w'):
 CxOk {C with sure:=t,need:=nd} P:=
 ⟨hC.info,hC.func,hC.rt,hC.globals,hC.mixed,hC.zsize,hC.name,hC.flat,h,hC.join⟩
theorem CxOk.withJoin {C:Cx} {P:Program} (hC:CxOk C P) {f:Nat} (h:∀(bk o c:Nat) (xs:List ByteArray) (sep:ByteArray) (w:World),(∀(j:Nat) x,xs[j]? =some x->w.cell? ⟨bk,o+j,none⟩=some (.string x))->
 bk<w.heap.size->xs.length<=c->xs.length<=1099511627776->(joinL (xs.map (·.data.toList)) sep.data.toList).length<1099511627776->
 Calls P f #[.slice (some ⟨bk,o,none⟩) xs.length c,.string sep] w fun e w'=>e= .returned (.string ⟨⟨joinL (xs.map (·.data.toList)) sep.data.toList⟩⟩)/\RowKit.Below w.heap.size w w'):
 CxOk {C with joins:=some f} P:=
 ⟨hC.info,hC.func,hC.rt,hC.globals,hC.mixed,hC.zsize,hC.name,hC.flat,hC.sure,fun g hg=>by cases hg;exact h⟩
theorem sure_one {P:Program} {f:Nat} {v:Value} {nd:Option Nat} (hv:closedB v=true)
 (h:∀w,(∀n,nd=some n->∃m,w.cell? ⟨n,0,none⟩=some (.int .i64 m))->Calls P f #[] w fun e w'=>e= .returned v/\RowKit.Below w.heap.size w w'):
 ∀g a,((T.nil:T Value).set f v).get g=some a->closedB a=true/\∀w,(∀n,nd=some n->∃m,w.cell? ⟨n,0,none⟩=some (.int .i64 m))->Calls P g #[] w fun e w'=>e= .returned a/\RowKit.Below w.heap.size w w':=by
 intro g a hg
 rw [T.get_set] at hg
 split at hg
 · rename_i e
   cases hg
   subst e
   exact ⟨hv,h⟩
 · rw [T.get_nil] at hg;cases hg
end Go.Eng
namespace Go.Eng
open Go.RowKit Go.ChangeShapes
def callO (C:Cx) (over:FuncId->List Value->St->Option Value) (rec:Rec) (n:Nat) (dfr:Bool) (f:FuncId) (args:List Value) (u:FrameMode) (s:St):FOut:=
 match dfr with
 | true=>callA C rec n true f args u s
 | false=>match over f args s with
   | some v=> .returned v u s
   | none=>callA C rec n false f args u s
def recO (C:Cx) (over:FuncId->List Value->St->Option Value):Nat->Rec
 | 0=>{call:=fun _ _ _ _ _=> .fail,round:=fun _ _ _=> .fail}
 | n+1=>{call:=callO C over (recO C over n) n,round:=roundA C (recO C over n) n}
variable {C:Cx} {P:Program}
def OverOk (C:Cx) (P:Program) (over:FuncId->List Value->St->Option Value):Prop:=
 ∀f args s v φ D w,over f args s=some v->Inv C φ D s w->OkL D args->
  closedB v=true/\Calls P f (denL φ args).toArray w fun e w'=>e= .returned v/\Below w.heap.size w w'
theorem below_rel' {φ:Phi} {D:Nat->Prop} {s:St} {w w':World} (hI:Inv C φ D s w) (hb:Below w.heap.size w w'):Inv C φ D s w'/\Ext φ D s.heap w φ D s.heap w':=
 ⟨⟨⟨hI.1.dom,fun i b hi=>(hI.1.blk i b hi).mono (fun _ h=>h) (fun _ _=>rfl) (hb.block _ (hI.1.blk i b hi).lt),hI.1.sep,hI.1.glob⟩,hI.2⟩,
   ⟨fun _ h=>h,fun _ _=>rfl,hb.size,hb.os,hb.tape,hb.output,fun k hk _=>hb.block k hk,fun i bi hi hw _=>⟨i,bi,hi,hw,rfl⟩,fun i bi hi _=>⟨i,bi,hi,rfl⟩⟩⟩
theorem recO_step (hC:CxOk C P) {over:FuncId->List Value->St->Option Value} (hover:OverOk C P over) {rec:Rec} (hrec:RecOk C P rec) (hdraw:DrawOk C P rec) (n:Nat):
 RecOk C P {call:=callO C over rec n,round:=roundA C rec n}:=by
 have base:=rec_step hC hrec hdraw n
 refine ⟨?_,fun f args u s φ D w hI hargs hu=>base.callD f args u s φ D w hI hargs hu,base.round⟩
 intro f args s φ D w hI hargs
 have h0:=base.call f args s φ D w hI hargs
 simp only [callO]
 cases hs:over f args s with
 | some v=>
   simp only
   intro cs
   obtain ⟨hv,hcall⟩:=hover f args s v φ D w hs hI hargs
   obtain ⟨e,w',fr,⟨he,hb⟩,h1,h2,h3⟩:=hcall cs
   subst he
   obtain ⟨q1,q2⟩:=below_rel' hI hb
   exact ⟨φ,D,w',fr,q1,q2,(closed_den φ D v hv).2,by simpa [Comes] using h1,h2,by rw [(closed_den φ D v hv).1];exact h3⟩
 | none=>exact h0
theorem recO_sound (hC:CxOk C P) {over:FuncId->List Value->St->Option Value} (hover:OverOk C P over):∀n,RecOk C P (recO C over n)
 | 0=>⟨fun _ _ _ _ _ _ _ _=>trivial,fun _ _ _ _ _ _ _ _ _ _=>trivial,fun _ _ _ _ _ _ _ _ _ _ _ _ _=>trivial⟩
 | n+1=>recO_step hC hover (recO_sound hC hover n) (draw_sound hC (recO_sound hC hover n)) n
theorem closed_callG (hC:CxOk C P) {over:FuncId->List Value->St->Option Value} (hover:OverOk C P over) {n f:Nat} {h0:T Blk}
 (h:retTrue ((recO C over n).call false f [] .run ⟨h0,C.globals⟩)=true) (w:World)
 (hr:Rel C (fun g=>⟨g,0,0,none⟩) (fun i=>i<C.globals) h0 w) (hnw:∀i b,h0.get i=some b->writable b=false):
 Calls P f #[] w fun e w'=>e= .returned (.bool true)/\Below w.heap.size w w':=by
 have hI:Inv C (fun g=>⟨g,0,0,none⟩) (fun i=>i<C.globals) ⟨h0,C.globals⟩ w:=⟨hr,fun i h=>h⟩
 have hcall:=(recO_sound hC hover n).call f [] ⟨h0,C.globals⟩ _ _ w hI trivial
 generalize (recO C over n).call false f [] .run ⟨h0,C.globals⟩=out at h hcall
 cases out with
 | returned v u s'=>
   have hv:v= .bool true:=by
    cases v with
    | bool b=>cases b with
      | true=>rfl
      | false=>simp [retTrue] at h
    | _=>simp [retTrue] at h
   subst hv
   intro cs
   obtain ⟨φ',D',w',fr,h1,h2,h3,h4,h5,h6⟩:=hcall cs
   refine ⟨.returned (.bool true),w',fr,⟨rfl,⟨h2.os,h2.tape,h2.output,h2.size,fun k hk=>h2.frame k hk fun i bi hi hw=>by rw [hnw i bi hi] at hw;cases hw⟩⟩, ?_,h5, ?_⟩
   · simpa [denL,Comes] using h4
   · simpa [den] using h6
 | panicked ch u s'=>simp [retTrue] at h
 | fail=>simp [retTrue] at h
end Go.Eng
namespace Go.Eng
open Go.RowKit
def overIdx (idx:List Nat) (g:Nat) (f:FuncId) (args:List Value) (s:St):Option Value:=
 bif memN f idx then
  match args with
  | [.string a,.string b]=>match s.heap.get g with
    | some (.cells (.int .i64 _::_) _ _ _)=>bif Nat.blt a.data.toList.length 4294967281 then some (.int .i64 (Lib.index a.data.toList b.data.toList)) else none
    | _=>none
  | _=>none
 else none
theorem overIdx_ok {C:Cx} {P:Program} {idx:List Nat} {g:Nat} (hg:g<C.globals)
 (h:∀f∈idx,∀(a b:ByteArray) (m:Int) (w:World),a.size<4294967281->w.cell? ⟨g,0,none⟩=some (.int .i64 m)->
   Calls P f #[.string a,.string b] w fun e w'=>e= .returned (.int .i64 (Lib.index a.data.toList b.data.toList))/\w'=w):OverOk C P (overIdx idx g):=by
 intro f args s v φ D w hv hI hargs
 unfold overIdx at hv
 replace hv:=bool_split hv;rcases hv with ⟨hf,hv⟩ | ⟨_,hv⟩
 case inr=>cases hv
 split at hv
 case h_2=>cases hv
 rename_i a b
 split at hv
 case h_2=>cases hv
 rename_i m r el st par hget
 replace hv:=bool_split hv;rcases hv with ⟨hl,hv⟩ | ⟨_,hv⟩
 case inr=>cases hv
 cases hv
 refine ⟨rfl, ?_⟩
 rw [memN_eq] at hf
 have hmem:f∈idx:=by simpa using hf
 rw [blt_iff] at hl
 have hcell:w.cell? ⟨g,0,none⟩=some (.int .i64 m):=by
  obtain ⟨_,c,el,fr,sz,h1,h2,h3,h4,_⟩:=hI.1.blk g _ hget
  have hφ:=(hI.1.glob g hg).2
  rw [hφ] at h1 h4
  have:=h4 0 (.int .i64 m) rfl
  simp only [den] at this
  simp only [World.cell?,h1]
  simpa using this
 have hden:(denL φ [.string a,.string b]).toArray= #[.string a,.string b]:=by simp [denL,den]
 rw [hden]
 exact (h f hmem a b m w hl hcell).mono fun e w' ⟨h1,h2⟩=>⟨h1,by subst h2;exact Below.refl _ _⟩
end Go.Eng
namespace Go.Eng
open Go.RowKit
variable {H:Type} {enc:TypeId×Value->H}
theorem cells_of_shape {P:Program} {w:World} {g t:Nat} {zero:Array Value} {k:IntKind}
 (h:w.ShapedOpen P) (hg:g<P.globals.size)
 (h0:((begin P (fun _ _=>0) default).world.heap[g]?).bind Obj.row? =some (zero,t)) (hz:zero.size=1)
 (hb:P.buildable t=true) (hc:P.cellTypes P.depth t=some [t]) (hu:P.underlying t=some (.int k)):
 ∃m cs fr,w.heap[g]? =some (.cells cs t fr)/\cs[0]? =some (.int k m):=by
 obtain ⟨cs,hh,hs,hr⟩:=h.1 g zero t hg h0
 obtain ⟨ts,hts,_,hall⟩:=hr hb
 rw [hc] at hts
 cases hts
 have h1:0<cs.size:=by omega
 obtain ⟨u,hu',hok⟩:=hall 0 cs[0] (by simp [h1])
 have:u=t:=by simpa using hu'.symm
 subst this
 unfold Cell.ok at hok
 rw [hu] at hok
 have hcs:cs[0]? =some cs[0]:=by simp [h1]
 cases hv:cs[0]<;>rw [hv] at hok<;>simp at hok
 case int k' n=>exact ⟨n,cs,_,hh,by rw [hcs,hv,hok.1]⟩
def cellsD:DataW Unit->List Value
 | .agg l=>l.filterMap fun d=>match d with
   | .lit (.int k n)=>some (.int k n)
   | _=>none
 | _=>[]
noncomputable def laidAt (w:World) (g:Nat) (d:DataW Unit):World:=
 {w with heap:=w.heap.modify g fun o=>match o with
    | .cells _ t fr=> .cells (cellsD d).toArray t fr
    | o=>o}
end Go.Eng
