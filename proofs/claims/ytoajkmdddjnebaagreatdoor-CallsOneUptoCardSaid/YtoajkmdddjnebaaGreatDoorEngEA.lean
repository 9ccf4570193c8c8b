import GoSem.Step
import Derived.Laws.Sem
import Derived.Below
set_option linter.unusedSimpArgs false
set_option linter.unusedVariables false
namespace Go.Eng
inductive T (α:Type) where
 | nil
 | node (l:T α) (v:Option α) (r:T α)
def T.get {α:Type}:T α->Nat->Option α
 | .nil,_=>none
 | .node l v r,n=>match n with
   | 0=>v
   | m+1=>bif Nat.beq (m%2) 0 then l.get (m/2) else r.get (m/2)
def T.left {α:Type}:T α->T α
 | .nil=> .nil
 | .node l _ _=>l
def T.here {α:Type}:T α->Option α
 | .nil=>none
 | .node _ v _=>v
def T.right {α:Type}:T α->T α
 | .nil=> .nil
 | .node _ _ r=>r
def T.put {α:Type} (a:Option α):Nat->T α->Nat->T α
 | 0,t,_=>t
 | f+1,t,n=>match n with
   | 0=> .node t.left a t.right
   | m+1=>bif Nat.beq (m%2) 0 then .node (T.put a f t.left (m/2)) t.here t.right else .node t.left t.here (T.put a f t.right (m/2))
def T.set {α:Type} (t:T α) (n:Nat) (a:α):T α:=T.put (some a) (n+1) t n
def T.del {α:Type} (t:T α) (n:Nat):T α:=T.put none (n+1) t n
structure Cx where
 types:T TypeInfo
 funcs:T Func
 rt:RuntimeTypes
 globals:Nat
 flat:T Unit:= .nil
 sure:T Value:= .nil
 need:Option Nat:=none
 joins:Option Nat:=none
def opn (cap:Nat):Bool:=Nat.beq (cap%2) 1
def capOf (cap:Nat):Nat:=cap/2
mutual
def closedB:Value->Bool
 | .bool _ | .int _ _ | .float _ _ | .complex _ _ _ | .string _ | .nilFunc | .nilIface=>true
 | .pointer none | .map none | .chan none=>true
 | .slice none _ _=>true
 | .iface _ v=>closedB v
 | .agg cs=>closedA cs
 | .tuple cs=>closedA cs
 | .func (.func _) f c=>closedA f&&closedA c
 | _=>false
def closedA:Array Value->Bool
 | ⟨l⟩=>closedL l
def closedL:List Value->Bool
 | []=>true
 | v::r=>closedB v&&closedL r
end
structure LoopA where
 state:LoopState
 pending:Option Code
 fn:FuncId
 tmps:T Value
 ntm:Nat
 params:Array Tmp
 assign:Code
 body:Code
 defers:Nat
inductive Blk where
 | cells (vs:List Value) (elem:TypeId) (st:Nat) (par:Option Nat)
 | map (es:List MapEntry) (clock:Nat)
 | sIter (s:List UInt8) (pos:Nat)
 | mIter (m:Option Nat) (since:Nat) (seen:List Nat) (stepped:Nat)
 | loop (l:LoopA)
 | deferred (ds:Option (List Deferred))
 | chan (cap:Nat) (buf:List Value) (sent rcvd:Nat)
structure St where
 heap:T Blk
 next:Nat
structure E where
 tmps:T Value
 n:Nat
 defers:List Deferred
inductive R (α:Type) where
 | ok (a:α) (s:St)
 | panic (v:Value) (s:St)
 | fail
inductive ANext where
 | value (v:Value)
 | enter (f:FuncId) (args:List Value)
 | round (l:Nat) (args:List Value)
 | defer (d:Deferred)
 | recover
def Cx.info (C:Cx) (t:TypeId):Option TypeInfo:=C.types.get t
def Cx.und (C:Cx) (t:TypeId):Option TypeDesc:=
 match C.types.get t with
 | some i=>match i.desc with
   | .named _ u=>(C.types.get u).map (·.desc)
   | d=>some d
 | none=>none
def Cx.size (C:Cx) (t:TypeId):Option Nat:=(C.types.get t).map (·.size)
def Cx.zero (C:Cx) (t:TypeId):Option Value:=
 match C.types.get t with
 | some i=>match i.zero with
   | some z=>bif closedB z then some z else none
   | none=>none
 | none=>none
def E.eval (e:E) (C:Cx):Operand->Option Value
 | .tmp t=>e.tmps.get t
 | .const v=>bif closedB v then some v else none
 | .global g=>bif Nat.blt g C.globals then some (.pointer (some ⟨g,0,none⟩)) else none
 | .func f=>some (.func (.func f) #[] #[])
def E.put (e:E) (d:Option Tmp) (v:Value):Option E:=
 match d,e with
 | some t,⟨tm,n,ds⟩=>bif Nat.blt t n then some ⟨tm.set t v,n,ds⟩ else none
 | none,e=>some e
def isCst:Operand->Bool
 | .const _=>true
 | _=>false
def evals (C:Cx) (e:E):List Operand->Option (List Value)
 | []=>some []
 | x::r=>match e.eval C x with
   | some v=>match evals C e r with
     | some l=>some (v::l)
     | none=>none
   | none=>none
def St.new (s:St) (b:Blk):St:={heap:=s.heap.set s.next b,next:=s.next+1}
def nth {α:Type}:List α->Nat->Option α
 | [],_=>none
 | a::r,n=>match n with
   | 0=>some a
   | m+1=>nth r m
def takeN {α:Type}:Nat->List α->Option (List α)
 | 0,_=>some []
 | _+1,[]=>none
 | n+1,a::r=>match takeN n r with
   | some l=>some (a::l)
   | none=>none
def dropN {α:Type}:Nat->List α->List α
 | 0,l=>l
 | _+1,[]=>[]
 | n+1,_::r=>dropN n r
def writeN {α:Type}:List α->Nat->List α->Option (List α)
 | l,0,[]=>some l
 | [],0,_::_=>none
 | _::r,0,v::vs=>match writeN r 0 vs with
   | some l=>some (v::l)
   | none=>none
 | [],_+1,_=>none
 | a::r,n+1,vs=>match writeN r n vs with
   | some l=>some (a::l)
   | none=>none
def isAggD:TypeDesc->Bool
 | .struct _ | .array _ _=>true
 | _=>false
def cellsOf':Value->List Value
 | .agg cs=>cs.toList
 | v=>[v]
def loadA (C:Cx) (t:TypeId) (p:Value) (s:St):Option Value:=
 match p with
 | .pointer (some ⟨id,off,none⟩)=>
   match s.heap.get id with
   | some (.cells vs _ _ _)=>
     match C.und t with
     | some d=>bif isAggD d then
        match C.size t with
        | some n=>match takeN n (dropN off vs) with
          | some l=>some (.agg ⟨l⟩)
          | none=>none
        | none=>none
       else nth vs off
     | none=>none
   | _=>none
 | _=>none
def killPar (s:St):Option Nat->St
 | none=>s
 | some q=>{s with heap:=s.heap.del q}
def oneCells:List Value->Bool
 | []=>true
 | v::r=>v.oneCell'&&oneCells r
def parIs:Option Nat->Nat->Bool
 | some q,id=>Nat.beq q id
 | none,_=>false
def writeBlk (s:St) (id off:Nat) (vs:List Value):Option St:=
 match vs with
 | []=>some s
 | _=>
   match s.heap.get id with
   | some (.cells cs e 0 par)=>
     match writeN cs off vs with
     | some cs'=>bif oneCells vs&& !parIs par id then (let s:=killPar s par;some {s with heap:=s.heap.set id (.cells cs' e 0 none)}) else none
     | none=>none
   | _=>none
def storeA (C:Cx) (t:TypeId) (p v:Value) (s:St):Option St:=
 match p with
 | .pointer (some ⟨id,off,none⟩)=>
   match C.size t with
   | some n=>let cs:=cellsOf' v;bif Nat.beq cs.length n then writeBlk s id off cs else none
   | none=>none
 | _=>none
def errV (C:Cx) (m:String):Value:= .iface C.rt.errorString (strVal m)
def nilDerefV (C:Cx):Value:=errV C "invalid memory address or nil pointer dereference"
def cellsZero (z:List Value):Nat->List Value
 | 0=>[]
 | n+1=>z++cellsZero z n
def fillL (place:Nat->Option (Nat×Nat)):List (Nat×Value)->List Value->Option (List Value)
 | [],cells=>some cells
 | (i,v)::rest,cells=>
   match place i with
   | none=>none
   | some (off,size)=>
     let cs:=cellsOf' v
     bif Nat.beq cs.length size then
      match writeN cells off cs with
      | some cells'=>fillL place rest cells'
      | none=>none
     else none
def partsA (C:Cx) (e:E):List (Nat×Operand)->Option (List (Nat×Value))
 | []=>some []
 | (i,x)::r=>match e.eval C x with
   | some v=>match partsA C e r with
     | some l=>some ((i,v)::l)
     | none=>none
   | none=>none
def placesOf (C:Cx):List Field->Option (List (Nat×Nat))
 | []=>some []
 | f::r=>match C.size f.type with
   | some n=>match placesOf C r with
     | some l=>some ((f.offset,n)::l)
     | none=>none
   | none=>none
def buildA (C:Cx) (t:TypeId) (parts:List (Nat×Value)):Option Value:=
 match C.zero t with
 | some z=>
   match C.und t with
   | some (.struct fields)=>
     match placesOf C fields.toList with
     | some ps=>match fillL (nth ps) parts (cellsOf' z) with
       | some l=>some (.agg ⟨l⟩)
       | none=>none
     | none=>none
   | some (.array _ elem)=>
     match C.size elem with
     | some n=>match fillL (fun i=>some (i*n,n)) parts (cellsOf' z) with
       | some l=>some (.agg ⟨l⟩)
       | none=>none
     | none=>none
   | _=>none
 | none=>none
def buildSliceA (C:Cx) (t:TypeId) (len:Nat) (parts:List (Nat×Value)) (s:St):R ANext:=
 match C.und t with
 | some (.slice elem)=>
   match C.size elem,C.zero elem with
   | some n,some z=>
     bif Nat.ble (len*n) 16777216 then
      match fillL (fun i=>some (i*n,n)) parts (cellsZero (cellsOf' z) len) with
      | some l=> .ok (.value (.slice (some ⟨s.next,0,none⟩) len (2*len))) (s.new (.cells l elem 0 none))
      | none=> .fail
     else .fail
   | _,_=> .fail
 | _=> .fail
def ovalue (o:Option Value) (s:St):R ANext:=
 match o with
 | some v=> .ok (.value v) s
 | none=> .fail
def ostate (o:Option St):R ANext:=
 match o with
 | some s=> .ok (.value undef) s
 | none=> .fail
def partA (C:Cx) (t:TypeId) (cs:List Value) (off:Nat):Option Value:=
 match C.und t with
 | some d=>bif isAggD d then
    match C.size t with
    | some n=>match takeN n (dropN off cs) with
      | some l=>some (.agg ⟨l⟩)
      | none=>none
    | none=>none
   else nth cs off
 | none=>none
def fieldA (C:Cx) (t:TypeId) (x:Value) (f:Nat):Option Value:=
 match C.und t,x with
 | some (.struct fields),.agg cs=>
   match nth fields.toList f with
   | some fd=>partA C fd.type cs.toList fd.offset
   | none=>none
 | _,_=>none
def fieldAddrA (C:Cx) (t:TypeId) (x:Value) (f:Nat):Option Value:=
 match C.und t,x with
 | some (.struct fields),.pointer (some ⟨b,o,none⟩)=>
   match nth fields.toList f with
   | some fd=>match C.size fd.type with
     | some (_+1)=>some (.pointer (some ⟨b,o+fd.offset,none⟩))
     | _=>none
   | none=>none
 | _,_=>none
def indexAddrA (C:Cx) (t:TypeId) (x i:Value):Option Value:=
 match i with
 | .int _ (.ofNat i)=>
   match C.und t,x with
   | some (.array len elem),.pointer (some ⟨b,o,none⟩)=>
     match C.size elem with
     | some n=>bif Nat.blt i len then some (.pointer (some ⟨b,o+i*n,none⟩)) else none
     | none=>none
   | some (.slice elem),.slice (some ⟨b,o,none⟩) len _=>
     match C.size elem with
     | some n=>bif Nat.blt i len then some (.pointer (some ⟨b,o+i*n,none⟩)) else none
     | none=>none
   | _,_=>none
 | _=>none
def indexA (C:Cx) (t:TypeId) (x i:Value):Option Value:=
 match i with
 | .int _ (.ofNat i)=>
   match C.und t,x with
   | some (.array len elem),.agg cs=>
     match C.size elem with
     | some n=>bif Nat.blt i len then partA C elem cs.toList (i*n) else none
     | none=>none
   | some .string,.string s=>
     match nth s.data.toList i with
     | some b=>some (.int .u8 b.toNat)
     | none=>none
   | _,_=>none
 | _=>none
def boundA:Option Value->Nat->Option Nat
 | none,d=>some d
 | some (.int _ (.ofNat n)),_=>some n
 | _,_=>none
def cut3 (n:Nat) (a:Option Addr) (cap m h l:Nat):Option Value:=
 bif Nat.ble m (capOf cap)&&(Nat.ble h m&&Nat.ble l h) then
  match a with
  | some ⟨b,o,none⟩=>some (.slice (some ⟨b,(bif Nat.beq m l then o else o+l*n),none⟩) (h-l) (2*(m-l)))
  | none=>bif Nat.beq cap 0 then some (.slice none 0 0) else none
  | _=>none
 else none
def cut2 (n:Nat) (a:Option Addr) (cap h l:Nat):Option Value:=
 bif Nat.ble h (capOf cap)&&Nat.ble l h then
  match a with
  | some ⟨b,o,none⟩=>
    bif opn cap then
     bif Nat.blt l (capOf cap) then some (.slice (some ⟨b,o+l*n,none⟩) (h-l) (2*(capOf cap-l)+1))
     else bif Nat.beq l 0 then some (.slice (some ⟨b,o,none⟩) (h-l) cap)
     else some (.slice (some ⟨b,o,some (l*n+1)⟩) 0 1) -- an empty end:where it points to hangs on the places behind
    else some (.slice (some ⟨b,(bif Nat.beq (capOf cap) l then o else o+l*n),none⟩) (h-l) (2*(capOf cap-l)))
  | none=>bif Nat.beq cap 0 then some (.slice none 0 0) else none
  | some ⟨b,o,some k⟩=>bif Nat.beq cap 1 then some (.slice (some ⟨b,o,some k⟩) 0 1) else none
 else none
def cutS (b:ByteArray) (h l:Nat):Option Value:=
 bif Nat.ble h b.size&&Nat.ble l h then some (.string ⟨⟨(b.data.toList.drop l).take (h-l)⟩⟩) else none
def cutP (n:Nat) (b o len h l:Nat):Option Value:=
 bif Nat.ble h len&&Nat.ble l h then some (.slice (some ⟨b,(bif Nat.beq len l then o else o+l*n),none⟩) (h-l) (2*(len-l))) else none
def bounds2 (lo hi:Option Value) (len:Nat):Option (Nat×Nat):=
 match boundA hi len,boundA lo 0 with
 | some h,some l=>some (h,l)
 | _,_=>none
def sliceA (C:Cx) (t:TypeId) (x:Value) (lo hi mx:Option Value):Option Value:=
 match C.und t with
 | some .string=>
   match x,mx with
   | .string b,none=>match bounds2 lo hi b.size with
     | some (h,l)=>cutS b h l
     | none=>none
   | _,_=>none
 | some (.slice elem)=>
   match x with
   | .slice a len cap=>
     match C.size elem with
     | some n=>
       match mx with
       | some mv=>
         bif hi.isSome then
          match boundA (some mv) 0,bounds2 lo hi len with
          | some m,some (h,l)=>cut3 n a cap m h l
          | _,_=>none
         else none
       | none=>match bounds2 lo hi len with
         | some (h,l)=>cut2 n a cap h l
         | none=>none
     | none=>none
   | _=>none
 | some (.array len elem)=>
   match x,mx with
   | .pointer (some ⟨b,o,none⟩),none=>
     match C.size elem with
     | some n=>match bounds2 lo hi len with
       | some (h,l)=>cutP n b o len h l
       | none=>none
     | none=>none
   | _,_=>none
 | _=>none
def rdSlice (s:St) (size:Nat) (x:Value):Option (Nat×List Value):=
 match x with
 | .slice none len _=>bif Nat.beq len 0 then some (0,[]) else none
 | .slice (some ⟨b,o,none⟩) len _=>
   match s.heap.get b with
   | some (.cells vs _ _ _)=>match takeN (len*size) (dropN o vs) with
     | some l=>some (len,l)
     | none=>none
   | _=>none
 | .slice (some ⟨_,_,some _⟩) len _=>bif Nat.beq len 0 then some (0,[]) else none
 | .string str=>bif Nat.beq size 1 then some (str.size,str.data.toList.map fun b=> .int .u8 b.toNat) else none
 | _=>none
def isIntD:TypeDesc->Bool
 | .int _=>true
 | _=>false
def roomy (need bytes:Nat):Bool:=Nat.blt (need*bytes) 1099511627776&&(Nat.blt 0 bytes&&Nat.blt bytes 1048576)
def growA (s:St) (b o len cap need size:Nat) (elem:TypeId) (new:List Value):R ANext:=
 match s.heap.get b with
 | some (.cells vs e bs par)=>
   match takeN (len*size) (dropN o vs) with
   | some old=>
     bif opn cap then
      bif Nat.beq bs 0&&(Nat.beq (o%size) 0&&Nat.beq (o+capOf cap*size) vs.length&&(Nat.beq len (capOf cap)&&(Nat.beq e elem&&(!parIs par b&&oneCells new)))) then
       let s1:=killPar s par
       let s2:St:={heap:=s1.heap.set b (.cells vs e 1 none),next:=s.next}
       .ok (.value (.slice (some ⟨s.next,0,none⟩) need (2*need+1))) (s2.new (.cells (old++new) elem 0 (some b)))
      else .fail
     else .ok (.value (.slice (some ⟨s.next,0,none⟩) need (2*need+1))) (s.new (.cells (old++new) elem 0 none))
   | none=> .fail
 | _=> .fail
def appendTo (s:St) (elem:TypeId) (size bytes n:Nat) (new:List Value) (sl:Value):R ANext:=
 match sl with
 | .slice none len cap=>
   bif Nat.beq len 0&&Nat.beq cap 0 then
    bif Nat.beq n 0 then .ok (.value sl) s
    else bif roomy n bytes then .ok (.value (.slice (some ⟨s.next,0,none⟩) n (2*n+1))) (s.new (.cells new elem 0 none))
    else .fail
   else .fail
 | .slice (some ⟨b,o,none⟩) len cap=>
   bif Nat.ble (len+n) (capOf cap) then
    match writeBlk s b (o+len*size) new with
    | some s=> .ok (.value (.slice (some ⟨b,o,none⟩) (len+n) cap)) s
    | none=> .fail
   else bif roomy (len+n) bytes then growA s b o len cap (len+n) size elem new
   else .fail
 | .slice (some ⟨b,o,some k⟩) len cap=>
   bif Nat.beq len 0&&(Nat.beq cap 1&& !Nat.beq k 0) then
    bif Nat.beq n 0 then .ok (.value sl) s
    else bif roomy (0+n) bytes then growA s b (o+(k-1)) 0 1 (0+n) size elem new
    else .fail
   else .fail
 | _=> .fail
def appendA (C:Cx) (argTypes:List TypeId) (args:List Value) (s:St):R ANext:=
 match argTypes,args with
 | [st,xt],[sl,x]=>
   match C.und st,C.und xt with
   | some (.slice elem),some xd=>
     bif isIntD xd then
      match x,C.info elem with
      | .int _ (.ofNat n),some ei=>match C.zero elem with
        | some z=>bif Nat.ble n 1099511627776&&Nat.ble (ei.bytes*n) 1099511627776 then appendTo s elem ei.size ei.bytes n (cellsZero (cellsOf' z) n) sl else .fail
        | none=> .fail
      | _,_=> .fail
     else
     match C.info elem with
     | some ei=>
       match ei.zero with
       | some _=>
         match rdSlice s ei.size x with
         | some (n,new)=>appendTo s elem ei.size ei.bytes n new sl
         | none=> .fail
       | none=> .fail
     | none=> .fail
   | _,_=> .fail
 | _,_=> .fail
def minN (a b:Nat):Nat:=bif Nat.ble a b then a else b
def clearA (C:Cx) (argTypes:List TypeId) (args:List Value) (s:St):R ANext:=
 match argTypes,args with
 | t::_,x::_=>
   match C.und t,x with
   | some (.slice _),.slice none _ _=> .ok (.value (.tuple #[])) s
   | some (.slice _),.slice (some ⟨_,_,some _⟩) 0 _=> .ok (.value (.tuple #[])) s
   | some (.slice elem),.slice (some ⟨b,o,none⟩) len _=>
     match len with
     | 0=> .ok (.value (.tuple #[])) s
     | len+1=>match C.zero elem with
       | some z=>match writeBlk s b o (cellsZero (cellsOf' z) (len+1)) with
         | some s=> .ok (.value (.tuple #[])) s
         | none=> .fail
       | none=> .fail
   | _,_=> .fail
 | _,_=> .fail
def copyA (C:Cx) (argTypes:List TypeId) (args:List Value) (s:St):R ANext:=
 match argTypes,args with
 | dt::_,[dst,x]=>
   match C.und dt with
   | some (.slice elem)=>
     match C.size elem with
     | some size=>
       match rdSlice s size x with
       | some (n,new)=>
         match dst with
         | .slice none len _=>bif Nat.beq len 0 then .ok (.value (.int .i64 0)) s else .fail
         | .slice (some ⟨b,o,none⟩) len _=>
           match takeN (minN n len*size) new with
           | some new=>match writeBlk s b o new with
             | some s=> .ok (.value (.int .i64 (minN n len))) s
             | none=> .fail
           | none=> .fail
         | _=> .fail
       | none=> .fail
     | none=> .fail
   | _=> .fail
 | _,_=> .fail
def lenA (C:Cx) (argTypes:List TypeId) (args:List Value) (s:St):Option Value:=
 match argTypes,args with
 | t::_,x::_=>
   match C.und t,x with
   | some .string,.string b=>some (.int .i64 b.size)
   | some (.array n _),_=>some (.int .i64 n)
   | some (.slice _),.slice _ n _=>some (.int .i64 n)
   | some (.map _ _),.map none=>some (.int .i64 0)
   | some (.map _ _),.map (some r)=>
     match s.heap.get r with
     | some (.map es _)=>some (.int .i64 es.length)
     | _=>none
   | some (.chan _ _),.chan none=>some (.int .i64 0)
   | some (.chan _ _),.chan (some r)=>
     match s.heap.get r with
     | some (.chan _ buf _ _)=>some (.int .i64 buf.length)
     | _=>none
   | _,_=>none
 | _,_=>none
def eqBytes:List UInt8->List UInt8->Bool
 | [],[]=>true
 | a::x,b::y=>Nat.beq a.toNat b.toNat&&eqBytes x y
 | _,_=>false
def ltBytes:List UInt8->List UInt8->Bool
 | _,[]=>false
 | [],_::_=>true
 | a::x,b::y=>Nat.blt a.toNat b.toNat||(Nat.beq a.toNat b.toNat&&ltBytes x y)
def intSel:BinOp->IntKind->Int->Int->Option Value
 | .add=>fun k x y=>some (.int k (k.wrap (x+y)))
 | .sub=>fun k x y=>some (.int k (k.wrap (x-y)))
 | .mul=>fun k x y=>some (.int k (k.wrap (x*y)))
 | .quo=>fun k x y=>bif decide (y=0) then none else some (.int k (k.wrap (x.tdiv y)))
 | .rem=>fun k x y=>bif decide (y=0) then none else some (.int k (x.tmod y))
 | .and=>fun k x y=>some (.int k (k.wrap (BitVec.ofInt k.bits x &&& BitVec.ofInt k.bits y).toNat))
 | .or=>fun k x y=>some (.int k (k.wrap (BitVec.ofInt k.bits x ||| BitVec.ofInt k.bits y).toNat))
 | .xor=>fun k x y=>some (.int k (k.wrap (BitVec.ofInt k.bits x ^^^ BitVec.ofInt k.bits y).toNat))
 | .andNot=>fun k x y=>some (.int k (k.wrap (BitVec.ofInt k.bits x &&& ~~~ BitVec.ofInt k.bits y).toNat))
 | .eql=>fun k x y=>some (.bool (decide (x=y)))
 | .neq=>fun k x y=>some (.bool (!decide (x=y)))
 | .lss=>fun k x y=>some (.bool (decide (x<y)))
 | .leq=>fun k x y=>some (.bool (decide (x<=y)))
 | .gtr=>fun k x y=>some (.bool (decide (y<x)))
 | .geq=>fun k x y=>some (.bool (decide (y<=x)))
 | _=>fun k x y=>none
def intBin (op:BinOp) (k:IntKind) (x y:Int):Option Value:=intSel op k x y
def shiftBin (op:BinOp) (k:IntKind) (x y:Int):Option Value:=
 bif decide (y<0) then none else
 let n:=min y.toNat k.bits
 match op with
 | .shl=>some (.int k (k.wrap (x*2^n)))
 | .shr=>some (.int k (x.fdiv (2^n)))
 | _=>none
def strBin (op:BinOp) (x y:ByteArray):Option Value:=
 match op with
 | .add=>bif Nat.blt (x.size+y.size) 1099511627776 then some (.string ⟨⟨x.data.toList++y.data.toList⟩⟩) else none
 | .eql=>some (.bool (eqBytes x.data.toList y.data.toList))
 | .neq=>some (.bool (!eqBytes x.data.toList y.data.toList))
 | .lss=>some (.bool (ltBytes x.data.toList y.data.toList))
 | .leq=>some (.bool (ltBytes x.data.toList y.data.toList||eqBytes x.data.toList y.data.toList))
 | .gtr=>some (.bool (!(ltBytes x.data.toList y.data.toList||eqBytes x.data.toList y.data.toList)))
 | .geq=>some (.bool (!ltBytes x.data.toList y.data.toList))
 | _=>none
def eqA (d:TypeDesc) (x y:Value):Option Bool:=
 match d with
 | .bool=>match x,y with
   | .bool a,.bool b=>some (a==b)
   | _,_=>none
 | .pointer _=>match x,y with
   | .pointer none,.pointer b=>some b.isNone
   | .pointer (some _),.pointer none=>some false
   | _,_=>none
 | .slice _=>match x,y with
   | .slice none _ _,.slice b _ _=>some b.isNone
   | .slice (some _) _ _,.slice none _ _=>some false
   | _,_=>none
 | .map _ _=>match x,y with
   | .map none,.map b=>some b.isNone
   | .map (some _),.map none=>some false
   | _,_=>none
 | .func _ _ _=>match x,y with
   | .nilFunc,.nilFunc=>some true
   | .nilFunc,.func _ _ _=>some false
   | .func _ _ _,.nilFunc=>some false
   | _,_=>none
 | .interface _=>match x,y with
   | .nilIface,.nilIface=>some true
   | .nilIface,.iface _ _=>some false
   | .iface _ _,.nilIface=>some false
   | _,_=>none
 | _=>none
def bothNil:Value->Value->Bool
 | .nilIface,.nilIface=>true
 | _,_=>false
def eqFieldsA (C:Cx) (eq:TypeId->Value->Value->Option Bool) (xs ys:List Value):List Field->Option Bool
 | []=>some true
 | f::r=>bif f.name== "_" then none else
   match partA C f.type xs f.offset,partA C f.type ys f.offset with
   | some a,some b=>match eq f.type a b with
     | some true=>eqFieldsA C eq xs ys r
     | some false=>some false
     | none=>none
   | _,_=>none
def eqV (C:Cx):Nat->TypeId->Value->Value->Option Bool
 | 0,_,_,_=>none
 | n+1,t,x,y=>match C.und t with
   | none=>none
   | some d=>match x,y with
     | .agg xs,.agg ys=>match d with
       | .struct fs=>match C.flat.get t with
         | some _=>eqFieldsA C (eqV C n) xs.toList ys.toList fs.toList
         | none=>none
       | _=>none
     | .int k a,.int k' b=>match d with
       | .int _=>bif decide (k=k') then some (decide (a=b)) else none
       | _=>none
     | .string a,.string b=>match d with
       | .string=>some (eqBytes a.data.toList b.data.toList)
       | _=>none
     | .pointer (some ⟨a,o,none⟩),.pointer (some ⟨a',o',none⟩)=>match d with
       | .pointer elem=>match C.size elem with
         | some (_+1)=>bif Nat.beq a a' then some (Nat.beq o o') else none
         | _=>none
       | _=>none
     | x,y=>eqA d x y
def eqB (C:Cx) (t:TypeId) (cst:Bool) (x y:Value):Option Bool:=
 bif bothNil x y&& !cst then none else eqV C 64 t x y
def binA (C:Cx) (op:BinOp) (t:TypeId) (cst:Bool) (x y:Value):Option Value:=
 match x,y with
 | .int k a,.int k' b=>
   match op with
   | .shl=>shiftBin .shl k a b
   | .shr=>shiftBin .shr k a b
   | op=>bif decide (k=k') then intBin op k a b else none
 | .string a,.string b=>strBin op a b
 | x,y=>
   match op with
   | .eql=>match eqB C t cst x y with
     | some b=>some (.bool b)
     | none=>none
   | .neq=>match eqB C t cst x y with
     | some b=>some (.bool (!b))
     | none=>none
   | _=>none
def unA (op:UnOp) (x:Value):Option Value:=
 match op,x with
 | .not,.bool b=>some (.bool (!b))
 | .neg,.int k n=>intBin .sub k 0 n
 | .xor,.int k n=>intBin .xor k (if k.signed then -1 else k.max) n
 | _,_=>none
def bytesOfCells:List Value->Option (List UInt8)
 | []=>some []
 | .int .u8 n::r=>match bytesOfCells r with
   | some l=>some (UInt8.ofNat n.toNat::l)
   | none=>none
 | _=>none
def markA (s:St) (src dst:TypeId) (x:Value):R ANext:=
 bif Nat.beq src dst then
  match x with
  | .slice (some ⟨b,_,none⟩) _ _=>
    match s.heap.get b with
    | some (.cells vs e 0 par)=>bif parIs par b then .fail else .ok (.value x) {heap:=(killPar s par).heap.set b (.cells vs e 0 none),next:=s.next}
    | _=> .fail
  | _=> .fail
 else .fail
def toStrA (s:St) (x:Value):Option Value:=
 match x with
 | .slice _ _ _=>
   match rdSlice s 1 x with
   | some (_,l)=>match bytesOfCells l with
     | some bs=>some (.string ⟨⟨bs⟩⟩)
     | none=>none
   | none=>none
 | _=>none
def toUnsafeA (C:Cx) (s:St) (t:TypeId) (x:Value):Option Value:=
 match x with
 | .pointer none=>some x
 | .pointer (some ⟨b,o,none⟩)=>match C.size t,s.heap.get b with
   | some (_+1),some (.cells vs _ _ _)=>bif Nat.blt o vs.length then some x else none
   | _,_=>none
 | _=>none
def fromUnsafeA (C:Cx) (s:St) (u:TypeId) (x:Value):Option Value:=
 match x with
 | .pointer none=>some x
 | .pointer (some ⟨b,o,none⟩)=>match C.size u,s.heap.get b with
   | some (n+1),some (.cells vs e st _)=>bif Nat.blt st 2&&(Nat.beq e u&&(Nat.beq (o%(n+1)) 0&&Nat.ble (o+(n+1)) vs.length)) then some x else none
   | _,_=>none
 | _=>none
def convA (C:Cx) (src dst:TypeId) (x:Value) (s:St):R ANext:=
 match C.und src,C.und dst with
 | some sd,some dd=>
   match x with
   | .int _ n=>match dd with
     | .int k=> .ok (.value (.int k (k.wrap n))) s
     | _=> .fail
   | .string b=>match dd with
     | .string=> .ok (.value x) s
     | .slice e=>match C.und e with
       | some (.int .u8)=>
         bif Nat.blt b.size 1099511627776&&(match C.size e with | some n=>Nat.beq n 1 | none=>false) then
          .ok (.value (.slice (some ⟨s.next,0,none⟩) b.size (2*b.size+1))) (s.new (.cells (b.data.toList.map fun b=> .int .u8 b.toNat) e 0 none))
         else .fail
       | _=> .fail
     | _=> .fail
   | .slice _ _ _=>match sd,dd with
     | .slice e,.string=>match C.und e with
       | some (.int .u8)=>ovalue (toStrA s x) s
       | _=> .fail
     | .slice _,.slice e=>match C.und e with
       | some (.int .u8)=>markA s src dst x
       | _=> .fail
     | _,_=> .fail
   | .pointer _=>match sd,dd with
     | .pointer t,.unsafePointer=>ovalue (toUnsafeA C s t x) s
     | .unsafePointer,.pointer u=>ovalue (fromUnsafeA C s u x) s
     | _,_=> .fail
   | _=> .fail
 | _,_=> .fail
def makeSliceA (C:Cx) (t:TypeId) (len cap:Value) (s:St):R ANext:=
 match C.und t,len,cap with
 | some (.slice elem),.int _ (.ofNat l),.int _ (.ofNat c)=>
   match C.info elem,C.zero elem with
   | some ei,some z=>
     bif Nat.ble l c&&Nat.ble (ei.bytes*c) 1099511627776&&Nat.ble c 1099511627776 then
      .ok (.value (.slice (some ⟨s.next,0,none⟩) l (2*c))) (s.new (.cells (cellsZero (cellsOf' z) c) elem 0 none))
     else .fail
   | _,_=> .fail
 | _,_,_=> .fail
def makeChanA (C:Cx) (t:TypeId) (size:Value) (s:St):R ANext:=
 match C.und t,size with
 | some (.chan _ elem),.int _ (.ofNat n)=>
   match C.info elem with
   | some ei=>bif Nat.ble (ei.bytes*n) 1099511627776&&Nat.ble n 1099511627776 then .ok (.value (.chan (some s.next))) (s.new (.chan n [] 0 0)) else .fail
   | none=> .fail
 | _,_=> .fail
def isIfaceD:TypeDesc->Bool
 | .interface _=>true
 | _=>false
def typeAssertA (C:Cx) (x:Value) (asserted:TypeId) (ok:Bool):Option Value:=
 match C.und asserted with
 | some d=>
   bif isIfaceD d then none else
   match x with
   | .iface t v=>
     bif Nat.beq t asserted then some (bif ok then .tuple #[v,.bool true] else v)
     else bif ok then
      match C.zero asserted with
      | some z=>some (.tuple #[z,.bool false])
      | none=>none
     else none
   | .nilIface=>bif ok then
      match C.zero asserted with
      | some z=>some (.tuple #[z,.bool false])
      | none=>none
     else none
   | _=>none
 | none=>none
def keyEq (kd:TypeDesc) (a b:Value):Option Bool:=
 match kd with
 | .int _=>match a,b with
   | .int k a,.int k' b=>bif decide (k=k') then some (decide (a=b)) else none
   | _,_=>none
 | .string=>match a,b with
   | .string a,.string b=>some (eqBytes a.data.toList b.data.toList)
   | _,_=>none
 | .bool=>match a,b with
   | .bool a,.bool b=>some (a==b)
   | _,_=>none
 | _=>none
def plainKeyD:TypeDesc->Bool
 | .int _ | .string | .bool=>true
 | _=>false
def findE (kd:TypeDesc) (k:Value):List MapEntry->Nat->Option (Option (Nat×Value))
 | [],_=>some none
 | e::r,i=>match keyEq kd k e.key with
   | some true=>some (some (i,e.val))
   | some false=>findE kd k r (i+1)
   | none=>none
def setE (k v:Value):List MapEntry->Nat->List MapEntry
 | [],_=>[]
 | e::r,0=>{key:=k,val:=v,born:=e.born}::r
 | e::r,n+1=>e::setE k v r n
def delE:List MapEntry->Nat->List MapEntry
 | [],_=>[]
 | _::r,0=>r
 | e::r,n+1=>e::delE r n
def plainCellB:Value->Bool
 | .bool _ | .int _ _ | .string _=>true
 | _=>false
def sameCell:Value->Value->Bool
 | .bool a,.bool b=>a==b
 | .int k a,.int k' b=>decide (k=k')&&decide (a=b)
 | .string a,.string b=>eqBytes a.data.toList b.data.toList
 | _,_=>false
def sameCells:List Value->List Value->Bool
 | [],[]=>true
 | a::x,b::y=>sameCell a b&&sameCells x y
 | _,_=>false
def plainCells:List Value->Bool
 | []=>true
 | v::r=>plainCellB v&&plainCells r
def keyParts (C:Cx) (cs:List Value):List Field->Bool
 | []=>true
 | f::r=> !(f.name== "_")&&(match C.und f.type,partA C f.type cs f.offset with
   | some d,some _=>plainKeyD d
   | _,_=>false)&&keyParts C cs r
def chkKeyA (C:Cx) (key:TypeId) (kd:TypeDesc) (k:Value):Bool:=
 plainKeyD kd||match kd,k with
  | .struct fs,.agg cs=>(C.flat.get key).isSome&&(plainCells cs.toList&&keyParts C cs.toList fs.toList)
  | _,_=>false
def keyEqS (C:Cx) (key:TypeId) (a b:Value):Option Bool:=
 match a,b with
 | .agg xs,.agg ys=>bif plainCells xs.toList&&plainCells ys.toList then
    match eqV C 64 key a b with
    | some true=>bif sameCells xs.toList ys.toList then some true else none
    | r=>r
   else none
 | _,_=>none
def findS (C:Cx) (key:TypeId) (k:Value):List MapEntry->Nat->Option (Option (Nat×Value))
 | [],_=>some none
 | e::r,i=>match keyEqS C key k e.key with
   | some true=>some (some (i,e.val))
   | some false=>findS C key k r (i+1)
   | none=>none
def findK (C:Cx) (key:TypeId) (kd:TypeDesc) (k:Value) (es:List MapEntry):Option (Option (Nat×Value)):=
 bif plainKeyD kd then findE kd k es 0 else
 match kd with
 | .struct _=>findS C key k es 0
 | _=>none
def entriesA (s:St) (x:Value):Option (List MapEntry):=
 match x with
 | .map none=>some []
 | .map (some r)=>match s.heap.get r with
   | some (.map es _)=>some es
   | _=>none
 | _=>none
def lookupA (C:Cx) (t:TypeId) (x k:Value) (ok:Bool) (s:St):Option Value:=
 match C.und t with
 | some (.map key elem)=>
   match C.und key with
   | some kd=>
     bif chkKeyA C key kd k then
      match entriesA s x with
      | some es=>match findK C key kd k es with
        | some (some (_,v))=>some (bif ok then .tuple #[v,.bool true] else v)
        | some none=>match C.zero elem with
          | some z=>some (bif ok then .tuple #[z,.bool false] else z)
          | none=>none
        | none=>none
      | none=>none
     else none
   | none=>none
 | _=>none
def mapUpdateA (C:Cx) (t:TypeId) (m k v:Value) (s:St):Option St:=
 match C.und t,m with
 | some (.map key _),.map (some r)=>
   match C.und key,s.heap.get r with
   | some kd,some (.map es clock)=>
     bif chkKeyA C key kd k then
      match findK C key kd k es with
      | some (some (i,_))=>some {s with heap:=s.heap.set r (.map (setE k v es i) clock)}
      | some none=>some {s with heap:=s.heap.set r (.map (es++[{key:=k,val:=v,born:=clock}]) (clock+1))}
      | none=>none
     else none
   | _,_=>none
 | _,_=>none
def deleteA (C:Cx) (argTypes:List TypeId) (args:List Value) (s:St):R ANext:=
 match argTypes,args with
 | t::_,[m,k]=>
   match C.und t with
   | some (.map key _)=>
     match C.und key with
     | some kd=>
       bif chkKeyA C key kd k then
        match m with
        | .map none=> .ok (.value undef) s
        | .map (some r)=>
          match s.heap.get r with
          | some (.map es clock)=>match findK C key kd k es with
            | some (some (i,_))=> .ok (.value undef) {s with heap:=s.heap.set r (.map (delE es i) clock)}
            | some none=> .ok (.value undef) s
            | none=> .fail
          | _=> .fail
        | _=> .fail
       else .fail
     | none=> .fail
   | _=> .fail
 | _,_=> .fail
def rangeA (C:Cx) (t:TypeId) (x:Value) (s:St):R ANext:=
 match C.und t,x with
 | some .string,.string b=> .ok (.value (.pointer (some ⟨s.next,0,none⟩))) (s.new (.sIter b.data.toList 0))
 | some (.map _ _),.map none=> .ok (.value (.pointer (some ⟨s.next,0,none⟩))) (s.new (.mIter none 0 [] 0))
 | some (.map _ _),.map (some m)=>
   match s.heap.get m with
   | some (.map _ clock)=> .ok (.value (.pointer (some ⟨s.next,0,none⟩))) (s.new (.mIter (some m) clock [] clock))
   | _=> .fail
 | _,_=> .fail
def memN (n:Nat):List Nat->Bool
 | []=>false
 | a::r=>Nat.beq a n||memN n r
def nextA (it:Value) (isString:Bool) (s:St):R ANext:=
 match it with
 | .pointer (some ⟨r,0,none⟩)=>
   match s.heap.get r with
   | some (.sIter l pos)=>
     bif isString then
      match nth l pos with
      | none=>bif Nat.ble l.length pos then .ok (.value (.tuple #[.bool false])) s else .fail
      | some c=>bif Nat.blt c.toNat 128 then .ok (.value (.tuple #[.bool true,.int .i64 pos,.int .i32 c.toNat])) {s with heap:=s.heap.set r (.sIter l (pos+1))} else .fail
     else .fail
   | some (.mIter none _ _ _)=>bif isString then .fail else .ok (.value (.tuple #[.bool false])) s
   | some (.mIter (some m) since seen last)=>bif isString then .fail else
     match s.heap.get m with
     | some (.map es clock)=>
       bif !(seen.isEmpty||es.isEmpty)&&es.all (fun e=>Nat.ble last e.born) then .fail
       else match es.filter (fun e=> !memN e.born seen) with
        | []=> .ok (.value (.tuple #[.bool false])) s
        | [e]=>bif Nat.blt e.born since then .ok (.value (.tuple #[.bool true,e.key,e.val])) {s with heap:=s.heap.set r (.mIter (some m) since (seen++[e.born]) clock)} else .fail
        | _=> .fail
     | _=> .fail
   | _=> .fail
 | _=> .fail
def entryA (it:Value) (s:St):Option Value:=
 match it with
 | .pointer (some ⟨r,0,none⟩)=>match s.heap.get r with
   | some (.mIter (some m) _ seen stepped)=>match s.heap.get m with
     | some (.map es clock)=>bif Nat.beq clock stepped then
        match seen.getLast? with
        | some st=>match es.find? (fun e=>Nat.beq e.born st) with
          | some e=>some (.tuple #[e.key,e.val])
          | none=>none
        | none=>none
       else none
     | _=>none
   | _=>none
 | _=>none
def cmpBytes:List UInt8->List UInt8->Int
 | [],[]=>0
 | [],_::_=> -1
 | _::_,[]=>1
 | a::x,b::y=>bif Nat.blt a.toNat b.toNat then -1 else bif Nat.blt b.toNat a.toNat then 1 else cmpBytes x y
def isSlV:Value->Bool
 | .slice _ _ _=>true
 | _=>false
def indexByteA (c:Nat):List UInt8->Nat->Int
 | [],_=> -1
 | b::r,i=>bif Nat.beq b.toNat c then Int.ofNat i else indexByteA c r (i+1)
def countA (c:Nat):List UInt8->Nat->Nat
 | [],n=>n
 | b::r,n=>countA c r (bif Nat.beq b.toNat c then n+1 else n)
def byteA:Value->Option Nat
 | .int .u8 (.ofNat n)=>bif Nat.blt n 256 then some n else none
 | _=>none
def bytesA (s:St) (x:Value):Option (List UInt8):=
 match x with
 | .string b=>some b.data.toList
 | x=>bif isSlV x then
    match rdSlice s 1 x with
    | some (_,l)=>bytesOfCells l
    | none=>none
   else none
def externV (s:St) (name origin:String) (args:List Value):Option Value:=
 bif origin== "" then
  bif name== "internal/abi.NoEscape" then
   match args with
   | [a]=>some a
   | _=>none
  else bif name== "internal/bytealg.IndexByte" ||name== "internal/bytealg.IndexByteString" then
   match args with
   | [a,b]=>match bytesA s a,byteA b with
     | some l,some c=>some (.int .i64 (indexByteA c l 0))
     | _,_=>none
   | _=>none
  else bif name== "internal/bytealg.Count" ||name== "internal/bytealg.CountString" then
   match args with
   | [a,b]=>match bytesA s a,byteA b with
     | some l,some c=>some (.int .i64 (Int.ofNat (countA c l 0)))
     | _,_=>none
   | _=>none
  else bif name== "internal/bytealg.Compare" then
   match args with
   | [a,b]=>bif isSlV a&&isSlV b then
       match rdSlice s 1 a,rdSlice s 1 b with
       | some (_,x),some (_,y)=>match bytesOfCells x,bytesOfCells y with
         | some x,some y=>some (.int .i64 (cmpBytes x y))
         | _,_=>none
       | _,_=>none
     else none
   | _=>none
  else none
 else none
def externA (s:St) (name origin:String) (args:List Value):R ANext:=ovalue (externV s name origin args) s
def makeNoZeroA (C:Cx) (fn:Func) (args:List Value) (s:St):R ANext:=
 bif fn.origin== "" &&fn.name== "internal/bytealg.MakeNoZero" then
  match args,fn.resultTypes.toList with
  | [.int .i64 (.ofNat n)],[t]=>match C.und t with
    | some (.slice elem)=>match C.size elem with
      | some 1=>bif Nat.ble n 281474976710656 then .ok (.value (.slice (some ⟨s.next,0,none⟩) n 1)) (s.new (.cells [] elem 0 none)) else .fail
      | _=> .fail
    | _=> .fail
  | _,_=> .fail
 else .fail
def callFuncA (C:Cx) (f:FuncId) (args:List Value) (s:St):R ANext:=
 match C.funcs.get f with
 | some fn=>match fn.body with
   | some _=> .ok (.enter f args) s
   | none=>bif fn.name== "internal/bytealg.MakeNoZero" then makeNoZeroA C fn args s else externA s fn.name fn.origin args
 | none=> .fail
def max2A:Value->Value->Option Value
 | .int k x,.int _ y=>some (.int k (bif decide (x<y) then y else x))
 | _,_=>none
def min2A:Value->Value->Option Value
 | .int k x,.int _ y=>some (.int k (bif decide (y<x) then y else x))
 | _,_=>none
def foldA (f:Value->Value->Option Value):Value->List Value->Option Value
 | x,[]=>some x
 | x,y::r=>match f x y with
   | some z=>foldA f z r
   | none=>none
def panicA (x:Value) (s:St):R ANext:=
 match x with
 | .iface _ _=> .panic x s
 | _=> .fail
def capA (C:Cx) (argTypes:List TypeId) (args:List Value):Option Value:=
 match argTypes,args with
 | t::_,x::_=>
   match C.und t,x with
   | some (.array n _),_=>some (.int .i64 n)
   | some (.slice _),.slice none _ c=>some (.int .i64 c)
   | some (.slice _),.slice (some _) _ c=>bif opn c then none else some (.int .i64 (capOf c))
   | _,_=>none
 | _,_=>none
def sliceDataA (args:List Value):Option Value:=
 match args with
 | [.slice none _ _]=>some (.pointer none)
 | [.slice (some ⟨b,o,none⟩) _ c]=>match capOf c with
   | _+1=>some (.pointer (some ⟨b,o,none⟩))
   | 0=>none
 | _=>none
def unsafeStringA (C:Cx) (argTypes:List TypeId) (args:List Value) (s:St):R ANext:=
 match argTypes,args with
 | [pt,_],[.pointer p,.int .i64 (.ofNat n)]=>
   match n with
   | 0=> .ok (.value (.string ⟨⟨[]⟩⟩)) s
   | n+1=>
     match p,C.und pt with
     | some ⟨b,o,none⟩,some (.pointer elem)=>
       match C.size elem,s.heap.get b with
       | some 1,some (.cells vs e 0 par)=>
         bif Nat.beq e elem&&Nat.ble (n+1) 1099511627776&& !parIs par b then
          match takeN (n+1) (dropN o vs) with
          | some l=>match bytesOfCells l with
            | some bs=> .ok (.value (.string ⟨⟨bs⟩⟩)) {heap:=(killPar s par).heap.set b (.cells vs e 2 none),next:=s.next}
            | none=> .fail
          | none=> .fail
         else .fail
       | _,_=> .fail
     | _,_=> .fail
 | _,_=> .fail
def builtinSel:Builtin->Cx->List TypeId->List Value->St->R ANext
 | .append=>fun C argTypes args s=>appendA C argTypes args s
 | .copy=>fun C argTypes args s=>copyA C argTypes args s
 | .cap=>fun C argTypes args s=>ovalue (capA C argTypes args) s
 | .clear=>fun C argTypes args s=>clearA C argTypes args s
 | .unsafeSliceData=>fun C argTypes args s=>ovalue (sliceDataA args) s
 | .unsafeString=>fun C argTypes args s=>unsafeStringA C argTypes args s
 | .len=>fun C argTypes args s=>ovalue (lenA C argTypes args s) s
 | .delete=>fun C argTypes args s=>deleteA C argTypes args s
 | .recover=>fun C argTypes args s=> .ok .recover s
 | .max=>fun C argTypes args s=>match args with
   | x::r=>ovalue (foldA max2A x r) s
   | []=> .fail
 | .min=>fun C argTypes args s=>match args with
   | x::r=>ovalue (foldA min2A x r) s
   | []=> .fail
 | .panic=>fun C argTypes args s=>match args with
   | [x]=>panicA x s
   | _=> .fail
 | _=>fun C argTypes args s=> .fail
def builtinA (C:Cx) (b:Builtin) (argTypes:List TypeId) (args:List Value) (s:St):R ANext:=builtinSel b C argTypes args s
def methodA (C:Cx) (t:TypeId) (v:Value) (name:String):Option (FuncId×Value):=
 match C.info t with
 | some i=>match i.methods.toList.find? (·.name==name) with
   | some m=>match m.path.toList,m.func with
     | [],some (f,true)=>match C.und t with
       | some (.pointer _)=>some (f,v)
       | _=>none
     | [],some (f,false)=>match C.und t with
       | some (.pointer _)=>none
       | some _=>some (f,v)
       | none=>none
     | _,_=>none
   | none=>none
 | none=>none
def paramsT:List Tmp->List Value->T Value->T Value
 | p::ps,v::vs,t=>paramsT ps vs (t.set p v)
 | _,_,t=>t
def allLt (n:Nat):List Nat->Bool
 | []=>true
 | p::r=>Nat.blt p n&&allLt n r
def invokeA (C:Cx) (t:Target) (args:List Value) (s:St):R ANext:=
 match t with
 | .nil=> .panic (nilDerefV C) s
 | .builtin b argTypes _ _=>builtinA C b argTypes.toList args s
 | .fn (.func f) captured=>callFuncA C f (args++captured.toList) s
 | .fn (.yield l) _=>
   match s.heap.get l with
   | some (.loop r)=>bif Nat.beq args.length r.params.size&&allLt r.ntm r.params.toList then .ok (.round l args) s else .fail
   | _=> .fail
 | .fn (.method name) _=>
   match args with
   | .iface t v::rest=>match methodA C t v name with
     | some (f,recv)=>callFuncA C f (recv::rest) s
     | none=> .fail
   | .nilIface::_=> .panic (nilDerefV C) s
   | _=> .fail
 | _=> .fail
def ofValueA (f:Value) (args:List Value):Option Deferred:=
 match f with
 | .func fn first captured=>some {target:= .fn fn captured,args:=⟨first.toList++args⟩}
 | .nilFunc=>some {target:= .nil,args:=⟨args⟩}
 | _=>none
def resolveA (C:Cx) (e:E) (c:Call) (type:TypeId):Option Deferred:=
 match evals C e c.args.toList with
 | some args=>
   match c.callee with
   | .builtin b=>some {target:= .builtin b c.argTypes type (c.args.map isCst),args:=⟨args⟩}
   | .invoke r name=>match e.eval C r with
     | some v=>some {target:= .fn (.method name) #[],args:=⟨v::args⟩}
     | none=>none
   | .value f=>match e.eval C f with
     | some v=>ofValueA v args
     | none=>none
 | none=>none
def oev (C:Cx) (e:E):Option Operand->Option (Option Value)
 | none=>some none
 | some x=>(e.eval C x).map some
def isYield:Fn->Bool
 | .yield _=>true
 | _=>false
def opSel:Op->Cx->E->Oper->St->R ANext
 | .move x | .assign x=>fun C e o s=>ovalue (e.eval C x) s
 | .pick c a b=>fun C e o s=>match e.eval C c with
   | some (.bool true)=>ovalue (e.eval C a) s
   | some (.bool false)=>ovalue (e.eval C b) s
   | _=> .fail
 | .alloc t=>fun C e o s=>match C.zero t with
   | some z=> .ok (.value (.pointer (some ⟨s.next,0,none⟩))) (s.new (.cells (cellsOf' z) t 0 none))
   | none=> .fail
 | .box t x=>fun C e o s=>match e.eval C x,C.size t with
   | some v,some _=> .ok (.value (.pointer (some ⟨s.next,0,none⟩))) (s.new (.cells (cellsOf' v) t 0 none))
   | _,_=> .fail
 | .build t parts=>fun C e o s=>match partsA C e parts.toList with
   | some ps=>ovalue (buildA C t ps) s
   | none=> .fail
 | .buildSlice t len parts=>fun C e o s=>match partsA C e parts.toList with
   | some ps=>buildSliceA C t len ps s
   | none=> .fail
 | .load t a=>fun C e o s=>match e.eval C a with
   | some p=>ovalue (loadA C t p s) s
   | none=> .fail
 | .store t a x=>fun C e o s=>match e.eval C a,e.eval C x with
   | some p,some v=>ostate (storeA C t p v s)
   | _,_=> .fail
 | .nilCheck x=>fun C e o s=>match e.eval C x with
   | some (.pointer none) | some .nilIface | some .nilFunc=> .panic (nilDerefV C) s
   | some (.func (.method _) _ _)=> .fail
   | some v=> .ok (.value v) s
   | none=> .fail
 | .binOp op t x y _=>fun C e o s=>match e.eval C x,e.eval C y with
   | some a,some b=>ovalue (binA C op t (isCst x||isCst y) a b) s
   | _,_=> .fail
 | .unOp op _ x=>fun C e o s=>match e.eval C x with
   | some a=>ovalue (unA op a) s
   | none=> .fail
 | .convert src dst x=>fun C e o s=>match e.eval C x with
   | some a=>convA C src dst a s
   | none=> .fail
 | .makeInterface t x=>fun C e o s=>match e.eval C x,C.und t with
   | some _,some (.interface _)=> .fail
   | some a,some _=> .ok (.value (.iface t a)) s
   | _,_=> .fail
 | .makeFunc fn first captured=>fun C e o s=>match evals C e first.toList,evals C e captured.toList with
   | some f,some c=>bif isYield fn then .fail else .ok (.value (.func fn ⟨f⟩ ⟨c⟩)) s
   | _,_=> .fail
 | .makeMap t r=>fun C e o s=>match r with
   | none=> .ok (.value (.map (some s.next))) (s.new (.map [] 0))
   | some x=>match e.eval C x,C.und t with
     | some (.int _ _),some (.map _ _)=> .ok (.value (.map (some s.next))) (s.new (.map [] 0))
     | _,_=> .fail
 | .makeChan t x=>fun C e o s=>match e.eval C x with
   | some x=>makeChanA C t x s
   | none=> .fail
 | .makeSlice t l c=>fun C e o s=>match e.eval C l,e.eval C c with
   | some l,some c=>makeSliceA C t l c s
   | _,_=> .fail
 | .slice t x lo hi mx=>fun C e o s=>match e.eval C x,oev C e lo,oev C e hi,oev C e mx with
   | some x,some lo,some hi,some mx=>ovalue (sliceA C t x lo hi mx) s
   | _,_,_,_=> .fail
 | .fieldAddr t x f=>fun C e o s=>match e.eval C x with
   | some x=>ovalue (fieldAddrA C t x f) s
   | none=> .fail
 | .field t x f=>fun C e o s=>match e.eval C x with
   | some x=>ovalue (fieldA C t x f) s
   | none=> .fail
 | .indexAddr t x i=>fun C e o s=>match e.eval C x,e.eval C i with
   | some x,some i=>ovalue (indexAddrA C t x i) s
   | _,_=> .fail
 | .index t x i=>fun C e o s=>match e.eval C x,e.eval C i with
   | some x,some i=>ovalue (indexA C t x i) s
   | _,_=> .fail
 | .lookup t x k ok=>fun C e o s=>match e.eval C x,e.eval C k with
   | some x,some k=>ovalue (lookupA C t x k ok s) s
   | _,_=> .fail
 | .mapUpdate t m k x | .insert t m k x=>fun C e o s=>match e.eval C m,e.eval C k,e.eval C x with
   | some m,some k,some x=>ostate (mapUpdateA C t m k x s)
   | _,_,_=> .fail
 | .range t x=>fun C e o s=>match e.eval C x with
   | some x=>rangeA C t x s
   | none=> .fail
 | .entry it=>fun C e o s=>match e.eval C it with
   | some it=>ovalue (entryA it s) s
   | none=> .fail
 | .next it isS=>fun C e o s=>match e.eval C it with
   | some it=>nextA it isS s
   | none=> .fail
 | .typeAssert x _ asserted ok=>fun C e o s=>match e.eval C x with
   | some x=>ovalue (typeAssertA C x asserted ok) s
   | none=> .fail
 | .extract t i=>fun C e o s=>match e.eval C t with
   | some (.tuple vs)=>ovalue (nth vs.toList i) s
   | _=> .fail
 | .call c=>fun C e o s=>match resolveA C e c o.type with
   | some d=>invokeA C d.target d.args.toList s
   | none=> .fail
 | .defer c=>fun C e o s=>match resolveA C e c o.type with
   | some d=> .ok (.defer d) s
   | none=> .fail
 | .panic x=>fun C e o s=>match e.eval C x with
   | some x=>panicA x s
   | none=> .fail
 | _=>fun C e o s=> .fail
def opA (C:Cx) (e:E) (o:Oper) (s:St):R ANext:=opSel o.op C e o s
inductive X where
 | normal
 | exit (id:Nat)
 | goto (l:Nat)
 | ret
 | panic (chain:List PanicEntry)
inductive COut where
 | fin (x:X) (e:E) (u:FrameMode) (s:St)
 | fail
inductive FOut where
 | returned (v:Value) (u:FrameMode) (s:St)
 | panicked (chain:List PanicEntry) (u:FrameMode) (s:St)
 | fail
structure Cf where
 fn:FuncId
 dfr:Bool
 round:Option Nat
structure Rec where
 call:Bool->FuncId->List Value->FrameMode->St->FOut
 round:Nat->List Value->St->FOut
def recA (cf:Cf) (u:FrameMode):Option (Value×FrameMode):=
 match cf.round with
 | some _=>none
 | none=>bif cf.dfr then
    match u with
    | .panicking ({v,recovered:=false,goexit:=false}::older)=>some (v,.panicking ({v,recovered:=true}::older))
    | _=>some (.nilIface,u)
   else some (.nilIface,u)
def wantedA (ops:List Oper) (e:E) (o:Oper):Option Bool:=
 match o.guard with
 | none=>some true
 | some (j,want)=>match nth ops j with
   | some oj=>match oj.dst with
     | some d=>match e.tmps.get d with
       | some (.bool b)=>some (b==want)
       | some _=>some false
       | none=>none
     | none=>some false
   | none=>some false
def sendA (s:St) (ch v:Value):Option St:=
 match ch with
 | .chan (some r)=>match s.heap.get r with
   | some (.chan cap buf sent rcvd)=>bif Nat.blt buf.length cap then some {s with heap:=s.heap.set r (.chan cap (buf++[v]) (sent+1) rcvd)} else none
   | _=>none
 | _=>none
def recvA (C:Cx) (t:TypeId) (ch:Value) (ok:Bool) (s:St):Option (Value×St):=
 match C.und t,ch with
 | some (.chan _ elem),.chan (some r)=>
   match C.zero elem,s.heap.get r with
   | some _,some (.chan cap (v::buf) sent rcvd)=>some (bif ok then .tuple #[v,.bool true] else v,{s with heap:=s.heap.set r (.chan cap buf sent (rcvd+1))})
   | _,_=>none
 | _,_=>none
def offerA (C:Cx) (elem:TypeId) (ch v:Value) (s:St):Option (Value×St):=
 match C.zero elem,ch with
 | some _,.chan (some r)=>match s.heap.get r with
   | some (.chan cap buf sent rcvd)=>bif Nat.blt buf.length cap then some (.tuple #[.int .i64 0,.bool false],{s with heap:=s.heap.set r (.chan cap (buf++[v]) (sent+1) rcvd)})
     else some (.tuple #[.int .i64 (-1),.bool false],s)
   | _=>none
 | _,_=>none
def commSel:Op->Cx->E->Oper->St->Option (Value×St)
 | .send ch x=>fun C e o s=>match e.eval C ch,e.eval C x with
   | some ch,some v=>match sendA s ch v with
     | some s=>some (undef,s)
     | none=>none
   | _,_=>none
 | .recv t ch ok=>fun C e o s=>match e.eval C ch with
   | some ch=>recvA C t ch ok s
   | none=>none
 | .select cases false=>fun C e o s=>match cases.toList with
   | [c]=>match c.send,e.eval C c.chan with
     | some x,some ch=>match e.eval C x with
       | some v=>offerA C c.elem ch v s
       | none=>none
     | _,_=>none
   | _=>none
 | _=>fun C e o s=>none
def commA (C:Cx) (e:E) (o:Oper) (s:St):Option (Value×St):=commSel o.op C e o s
def opStep (C:Cx) (rec:Rec) (cf:Cf) (ops:List Oper) (o:Oper) (e:E) (u:FrameMode) (s:St):COut:=
 let put (v:Value) (u:FrameMode) (s:St):COut:=match e.put o.dst v with
  | some e=> .fin .normal e u s
  | none=> .fail
 match wantedA ops e o with
 | some true=>
   match commA C e o s with
   | some (v,s)=>put v u s
   | none=>
   match opA C e o s with
   | .ok (.value v) s=>put v u s
   | .ok (.enter f args) s=>
     match rec.call false f args .run s with
     | .returned v _ s=>put v u s
     | .panicked chain _ s=> .fin (.panic chain) e u s
     | .fail=> .fail
   | .ok (.round l args) s=>
     match rec.round l args s with
     | .returned v _ s=>put v u s
     | .panicked chain _ s=> .fin (.panic chain) e u s
     | .fail=> .fail
   | .ok (.defer d) s=>match cf.round with
     | none=>match e.put o.dst undef with
       | some e=> .fin .normal {e with defers:=d::e.defers} u s
       | none=> .fail
     | some _=> .fail
   | .ok .recover s=>match recA cf u with
     | some (v,u)=>put v u s
     | none=> .fail
   | .panic v s=> .fin (.panic [{v,recovered:=false}]) e u s
   | .fail=> .fail
 | some false=>put undef u s
 | none=> .fail
def opsA (C:Cx) (rec:Rec) (cf:Cf) (ops:List Oper):List Oper->E->FrameMode->St->COut
 | [],e,u,s=> .fin .normal e u s
 | o::r,e,u,s=>match opStep C rec cf ops o e u s with
   | .fin .normal e u s=>opsA C rec cf ops r e u s
   | x=>x
mutual
def sameV:Value->Value->Bool
 | .bool a,.bool b=>match a,b with
   | true,true=>true
   | false,false=>true
   | _,_=>false
 | .int k a,.int k' b=>decide (k=k')&&decide (a=b)
 | .string a,.string b=>eqBytes a.data.toList b.data.toList
 | .pointer none,.pointer none=>true
 | .pointer (some ⟨a,o,none⟩),.pointer (some ⟨a',o',none⟩)=>Nat.beq a a'&&Nat.beq o o'
 | .slice none l c,.slice none l' c'=>Nat.beq l l'&&Nat.beq c c'
 | .slice (some ⟨a,o,none⟩) l c,.slice (some ⟨a',o',none⟩) l' c'=>Nat.beq a a'&&Nat.beq o o'&&Nat.beq l l'&&Nat.beq c c'
 | .slice (some ⟨a,o,some k⟩) l c,.slice (some ⟨a',o',some k'⟩) l' c'=>Nat.beq a a'&&Nat.beq o o'&&Nat.beq l l'&&Nat.beq c c'&&Nat.beq k k'
 | .map none,.map none=>true
 | .map (some a),.map (some b)=>Nat.beq a b
 | .chan none,.chan none=>true
 | .chan (some a),.chan (some b)=>Nat.beq a b
 | .iface t v,.iface t' v'=>Nat.beq t t'&&sameV v v'
 | .agg x,.agg y=>sameA x y
 | .tuple x,.tuple y=>sameA x y
 | .func (.func f) x y,.func (.func g) x' y'=>Nat.beq f g&&sameA x x'&&sameA y y'
 | .func (.yield f) x y,.func (.yield g) x' y'=>Nat.beq f g&&sameA x x'&&sameA y y'
 | .nilFunc,.nilFunc=>true
 | .nilIface,.nilIface=>true
 | _,_=>false
def sameA:Array Value->Array Value->Bool
 | ⟨x⟩,⟨y⟩=>sameL x y
def sameL:List Value->List Value->Bool
 | [],[]=>true
 | a::x,b::y=>sameV a b&&sameL x y
 | _,_=>false
end
def sameB:Blk->Blk->Bool
 | .cells x t s p,.cells y t' s' p'=>sameL x y&&Nat.beq t t'&&Nat.beq s s'&&p.isNone&&p'.isNone
 | .map [] c,.map [] c'=>Nat.beq c c'
 | .chan n [] 0 0,.chan n' [] 0 0=>Nat.beq n n'
 | _,_=>false
mutual
def noIdV (n:Nat):Value->Bool
 | .pointer (some a)=> !Nat.beq a.block n
 | .slice (some a) _ _=> !Nat.beq a.block n
 | .map (some b)=> !Nat.beq b n
 | .chan (some b)=> !Nat.beq b n
 | .func (.func _) f c=>noIdA n f&&noIdA n c
 | .func _ _ _=>false
 | .iface _ v=>noIdV n v
 | .agg cs=>noIdA n cs
 | .tuple cs=>noIdA n cs
 | _=>true
def noIdA (n:Nat):Array Value->Bool
 | ⟨l⟩=>noIdL n l
def noIdL (n:Nat):List Value->Bool
 | []=>true
 | v::r=>noIdV n v&&noIdL n r
end
def noIdB (n:Nat):Blk->Bool
 | .cells vs _ _ none=>noIdL n vs
 | .map [] _=>true
 | .chan _ [] _ _=>true
 | _=>false
def stepV (C:Cx) (rec:Rec) (ops:List Oper) (o:Oper) (e:E) (s:St):Option (Value×St):=
 match wantedA ops e o with
 | some true=>match opA C e o s with
   | .ok (.value v) s=>some (v,s)
   | .ok (.enter f args) s=>match rec.call false f args .run s with
     | .returned v _ s=>some (v,s)
     | _=>none
   | .ok (.round l args) s=>match rec.round l args s with
     | .returned v _ s=>some (v,s)
     | _=>none
   | _=>none
 | some false=>some (undef,s)
 | none=>none
def stepP (C:Cx) (rec:Rec) (ops:List Oper) (o:Oper) (e:E) (s:St):Option (List PanicEntry×St):=
 match wantedA ops e o with
 | some true=>match opA C e o s with
   | .ok (.enter f args) s=>match rec.call false f args .run s with
     | .panicked ch _ s=>some (ch,s)
     | _=>none
   | .panic v s=>some ([{v,recovered:=false}],s)
   | _=>none
 | _=>none
def quietB (C:Cx):Op->Bool
 | .convert src dst _=>match C.und src,C.und dst with
   | some (.slice _),some (.slice _)=>false
   | _,_=>true
 | .move _ | .assign _ | .pick .. | .alloc _ | .box .. | .build .. | .buildSlice .. | .load .. | .nilCheck _ | .binOp .. | .unOp .. | .makeInterface .. | .makeFunc ..
 | .makeMap .. | .makeChan .. | .makeSlice .. | .slice .. | .fieldAddr .. | .field .. | .indexAddr .. | .index .. | .lookup .. | .typeAssert .. | .extract .. =>true
 | .call {callee:= .builtin .len,..}=>true
 | .call {callee:= .builtin .min,..}=>true
 | _=>false
def allocB:Op->Bool
 | .alloc _ | .box .. | .buildSlice .. | .convert .. | .makeMap .. | .makeChan .. | .makeSlice .. =>true
 | _=>false
def bitB (m i:Nat):Bool:=Nat.beq (Nat.shiftRight m i%2) 1
def subB (a b:Nat):Bool:=Nat.beq (Nat.land a b) a
def edgeA (cls:T Nat):List Edge->Nat->Option Nat
 | [],m=>some m
 | ⟨on,g⟩::r,m=>match g with
   | .textOnly _=>edgeA cls r m
   | .gcOnly _=>edgeA cls r m
   | _=>match cls.get on with
     | some k=>edgeA cls r (Nat.lor (Nat.lor m k) (Nat.shiftLeft 1 on))
     | none=>none
def closA:List Oper->Nat->T Nat->Option (T Nat)
 | [],_,cls=>some cls
 | o::r,i,cls=>match edgeA cls o.after.toList 0 with
   | some m=>closA r (i+1) (cls.set i m)
   | none=>none
def dstA:List Oper->Nat->T Nat->Option (T Nat)
 | [],_,t=>some t
 | o::r,i,t=>match o.dst with
   | none=>dstA r (i+1) t
   | some d=>match t.get d with
     | some _=>none
     | none=>dstA r (i+1) (t.set d i)
structure Info where
 id:Nat
 v:Value
 b:Blk
def knownA (V:T Value) (M:T Info) (j:Nat):Option Value:=
 match V.get j with
 | some v=>some v
 | none=>match M.get j with
   | some f=>some f.v
   | none=>none
def lookA (base:T Value) (dm:T Nat) (cls:T Nat) (i m:Nat) (V:T Value) (M:T Info) (d:Tmp) (t:T Value):T Value:=
 match dm.get d with
 | none=>match base.get d with
   | some v=>t.set d v
   | none=>t
 | some j=>bif bitB m j then
    match knownA V M j with
    | some v=>t.set d v
    | none=>t
   else match cls.get j with
    | some mj=>bif bitB mj i then
       match base.get d with
       | some v=>t.set d v
       | none=>t
      else t
    | none=>t
def looksA (base:T Value) (dm:T Nat) (cls:T Nat) (i m:Nat) (V:T Value) (M:T Info):List Operand->T Value->T Value
 | [],t=>t
 | .tmp d::r,t=>looksA base dm cls i m V M r (lookA base dm cls i m V M d t)
 | _::r,t=>looksA base dm cls i m V M r t
def envA (base:E) (ops:List Oper) (dm:T Nat) (cls:T Nat) (i m:Nat) (V:T Value) (M:T Info) (o:Oper):E:=
 let t:=looksA base.tmps dm cls i m V M o.op.operands.toList .nil
 {base with tmps:=match o.guard with
  | none=>t
  | some (j,_)=>match nth ops j with
    | none=>t
    | some oj=>match oj.dst with
      | none=>t
      | some d=>lookA base.tmps dm cls i m V M d t}
structure Rg where
 ops:List Oper
 dm:T Nat
 cls:T Nat
 base:E
def Rg.env (g:Rg) (i m:Nat) (V:T Value) (M:T Info) (o:Oper):E:=envA g.base g.ops g.dm g.cls i m V M o
structure Pt where
 B:St
 M:T Info
 done:Nat
 clos:Nat
def knownAllA (V:T Value) (M:T Info) (m:Nat):Nat->Bool
 | 0=>true
 | x+1=>(!bitB m x||((V.get x).isSome||(M.get x).isSome))&&knownAllA V M m x
def mergeA (C:Cx) (rec:Rec) (g:Rg) (keep:Nat->Bool):List (Nat×Oper)->T Value->T Info->St->Option (T Value×T Info×St×List (Nat×Oper))
 | [],V,M,s=>some (V,M,s,[])
 | (j,o)::r,V,M,s=>bif keep j then
     match g.cls.get j with
     | none=>none
     | some m=>bif knownAllA V M m g.ops.length then
        match stepV C rec g.ops o (g.env j m V M o) s with
        | none=>none
        | some (v,s1)=>bif Nat.beq s1.next s.next then
           match V.get j with
           | none=>mergeA C rec g keep r (V.set j v) M s
           | some _=>none
          else match stepV C rec g.ops o (g.env j m V M o) ⟨.nil,s.next⟩ with
           | some (v,s1)=>match s1.heap.get s.next,M.get j with
             | some b,none=>mergeA C rec g keep r V (M.set j ⟨s.next,v,b⟩) (s.new b)
             | _,_=>none
           | none=>none
       else none
   else match mergeA C rec g keep r V M s with
    | some (V,M,s,l)=>some (V,M,s,(j,o)::l)
    | none=>none
def laterB (C:Cx) (cls:T Nat) (i:Nat):List Oper->Nat->Bool
 | [],_=>true
 | o::r,j=>(quietB C o.op||match cls.get j with
   | some m=>bitB m i
   | none=>false)&&laterB C cls i r (j+1)
def heavyB (C:Cx) (cls:T Nat) (H i m:Nat) (o:Oper) (r:List Oper):Bool:=
 !quietB C o.op||(allocB o.op&&subB H m&&laterB C cls i r (i+1))
inductive DEnd where
 | fin (s:St)
 | pan (chain:List PanicEntry) (s:St)
def restA (C:Cx) (rec:Rec) (g:Rg) (h:Nat):List Oper->Nat->T Value->List (Nat×Oper)->T Info->St->Option (T Value×T Info×St)
 | [],_,V,pend,M,s=>match mergeA C rec g (fun _=>true) pend V M s with
   | some (V,M,s,_)=>some (V,M,s)
   | none=>none
 | o::r,i,V,pend,M,s=>match g.cls.get i,V.get i with
   | some m,none=>bif bitB m h then restA C rec g h r (i+1) V pend M s
     else match stepV C rec g.ops o (g.env i m V M o) s with
      | none=>restA C rec g h r (i+1) V (pend++[(i,o)]) M s
      | some (v,s1)=>bif Nat.beq s1.next s.next then restA C rec g h r (i+1) (V.set i v) pend M s
        else restA C rec g h r (i+1) V (pend++[(i,o)]) M s
   | _,_=>none
def passA (C:Cx) (rec:Rec) (g:Rg):List Oper->Nat->T Value->List (Nat×Oper)->Pt->St->List Pt->Option (T Value×List Pt×T Info×Nat×Nat×DEnd)
 | [],_,V,pend,p,s,pts=>match mergeA C rec g (fun _=>true) pend V p.M s with
   | some (V,M,s,_)=>some (V,p::pts,M,p.done,s.next,.fin s)
   | none=>none
 | o::r,i,V,pend,p,s,pts=>match g.cls.get i,V.get i with
   | some m,none=>
     bif heavyB C g.cls p.done i m o r then
      bif subB p.done m then
       match mergeA C rec g (bitB m) pend V p.M s with
       | none=>none
       | some (V,M,s1,pend)=>bif knownAllA V M m g.ops.length then
          match stepV C rec g.ops o (g.env i m V M o) s1 with
          | none=>match stepP C rec g.ops o (g.env i m V M o) s1 with
            | none=>none
            | some (ch,s2)=>match restA C rec g i r (i+1) V pend M s1 with
              | some (V,M,s3)=>some (V,p::pts,M,Nat.lor p.done (Nat.shiftLeft 1 i),s3.next,.pan ch s2)
              | none=>none
          | some (v,s2)=>match V.get i with
            | none=>passA C rec g r (i+1) (V.set i v) pend ⟨s2,M,Nat.lor p.done (Nat.shiftLeft 1 i),Nat.lor p.clos m⟩ s2 (p::pts)
            | some _=>none
         else none
      else none
     else match stepV C rec g.ops o (g.env i m V p.M o) s with
      | none=>passA C rec g r (i+1) V (pend++[(i,o)]) p s pts
      | some (v,s1)=>bif Nat.beq s1.next s.next then passA C rec g r (i+1) (V.set i v) pend p s pts
        else passA C rec g r (i+1) V (pend++[(i,o)]) p s pts
   | _,_=>none
def quietAt (C:Cx) (rec:Rec) (g:Rg) (V:T Value) (I:T Info) (H nx:Nat) (i m:Nat) (o:Oper) (p:Pt):Bool:=
 bif subB (Nat.land m H) p.done&& !bitB p.clos i then
  quietB C o.op&&match I.get i with
  | none=>match V.get i,stepV C rec g.ops o (g.env i m V I o) ⟨p.B.heap,nx⟩ with
    | some v0,some (v,s)=>sameV v v0&&Nat.beq s.next nx
    | _,_=>false
  | some f=>match p.M.get i,stepV C rec g.ops o (g.env i m V I o) ⟨.nil,f.id⟩ with
    | none,some (v,s)=>sameV v f.v&&Nat.beq s.next (f.id+1)&&(match s.heap.get f.id with
      | some b=>sameB b f.b&&noIdB f.id f.b
      | none=>false)
    | _,_=>false
 else true
def quietAll (C:Cx) (rec:Rec) (g:Rg) (V:T Value) (I:T Info) (H nx:Nat) (p:Pt):List Oper->Nat->Bool
 | [],_=>Nat.ble p.B.next nx
 | o::r,i=>(match I.get i with
    | some f=>(p.M.get i).isSome||Nat.ble p.B.next f.id
    | none=>true)&&(bif bitB H i then (I.get i).isNone else match g.cls.get i with
   | some m=>quietAt C rec g V I H nx i m o p
   | none=>false)&&quietAll C rec g V I H nx p r (i+1)
def infosA (V:T Value) (I:T Info) (nx:Nat):List Oper->Nat->List Nat->Bool
 | [],_,_=>true
 | _::r,i,seen=>match I.get i with
   | none=>infosA V I nx r (i+1) seen
   | some f=>(V.get i).isNone&&Nat.blt f.id nx&& !memN f.id seen&&infosA V I nx r (i+1) (f.id::seen)
def putsA (V:T Value) (M:T Info):List Oper->Nat->E->Option E
 | [],_,e=>some e
 | o::r,i,e=>match knownA V M i with
   | some v=>match e.put o.dst v with
     | some e=>putsA V M r (i+1) e
     | none=>none
   | none=>none
def dropA:List Oper->E->Option E
 | [],e=>some e
 | o::r,e=>match o.dst,e with
   | none,e=>dropA r e
   | some t,⟨tm,n,ds⟩=>bif Nat.blt t n then dropA r ⟨tm.del t,n,ds⟩ else none
def drawnA (C:Cx) (rec:Rec) (ops:List Oper) (e:E) (u:FrameMode) (s:St):COut:=
 match closA ops 0 .nil,dstA ops 0 .nil with
 | some cls,some dm=>
   let g:Rg:=⟨ops,dm,cls,e⟩
   match passA C rec g ops 0 .nil [] ⟨s,.nil,0,0⟩ s [] with
   | some (V,pts,M,H,nx,d)=>bif infosA V M nx ops 0 []&&(pts.all fun q=>quietAll C rec g V M H nx q ops 0) then
      match d with
      | .fin s1=>match putsA V M ops 0 e with
        | some e=> .fin .normal e u s1
        | none=> .fail
      | .pan ch s1=>match dropA ops e with
        | some e=> .fin (.panic ch) e u s1
        | none=> .fail
     else .fail
   | none=> .fail
 | _,_=> .fail
def COut.then (x:COut) (k:E->FrameMode->St->COut):COut:=
 match x with
 | .fin .normal e u s=>k e u s
 | x=>x
def iterA (body:E->FrameMode->St->COut):Nat->E->FrameMode->St->COut
 | 0,_,_,_=> .fail
 | n+1,e,u,s=>match body e u s with
   | .fin .normal e u s=>iterA body n e u s
   | x=>x
def inBlockA (id:Nat):COut->COut
 | .fin (.exit j) e u s=>bif Nat.beq j id then .fin .normal e u s else .fin (.exit j) e u s
 | x=>x
def exitOf:Code->Option X
 | .ret=>some .ret
 | .exit id=>some (.exit id)
 | .goto l=>some (.goto l)
 | _=>none
def rangeFuncA (C:Cx) (rec:Rec) (cf:Cf) (f:Operand) (params:Array Tmp) (assign body:Code) (e:E) (u:FrameMode) (s:St):COut:=
 match e.eval C f with
 | none=> .fail
 | some fv=>
   match (match cf.round with
    | none=>some (s.next,({e with defers:={target:= .collected s.next,args:= #[]}::e.defers}:E),s.new (.deferred (some [])))
    | some l=>match s.heap.get l with
      | some (.loop r)=>some (r.defers,e,s)
      | _=>none) with
   | none=> .fail
   | some (d,e',s)=>
     let l:=s.next
     let s:=s.new (.loop {state:= .ready,pending:=none,fn:=cf.fn,tmps:=e.tmps,ntm:=e.n,params,assign,body,defers:=d})
     match ofValueA fv [.func (.yield l) #[] #[]] with
     | some dd=>match invokeA C dd.target dd.args.toList s with
       | .ok (.enter g args) s=>
         match rec.call false g args .run s with
         | .returned _ _ s=>
           match s.heap.get l with
           | some (.loop r)=>
             match r.state with
             | .busy=> .fail
             | _=>
               let s:St:={s with heap:=s.heap.set l (.loop {r with state:= .exhausted})}
               match r.pending with
               | none=> .fin .normal e' u s
               | some c=>match exitOf c with
                 | some x=> .fin x e' u s
                 | none=> .fail
           | _=> .fail
         | .panicked chain _ s=> .fin (.panic chain) e' u s
         | .fail=> .fail
       | _=> .fail
     | none=> .fail
def codeA (C:Cx) (rec:Rec) (n:Nat) (cf:Cf):Code->E->FrameMode->St->COut
 | .skip,e,u,s=> .fin .normal e u s
 | .label _,e,u,s=> .fin .normal e u s
 | .region _ ops draw,e,u,s=>bif draw then drawnA C rec ops.toList e u s else opsA C rec cf ops.toList ops.toList e u s
 | .seq a b,e,u,s=>(codeA C rec n cf a e u s).then fun e u s=>codeA C rec n cf b e u s
 | .cond c a b,e,u,s=>match e.eval C c with
   | some (.bool true)=>codeA C rec n cf a e u s
   | some (.bool false)=>codeA C rec n cf b e u s
   | _=> .fail
 | .block id b,e,u,s=>inBlockA id (codeA C rec n cf b e u s)
 | .loop b,e,u,s=>iterA (codeA C rec n cf b) n e u s
 | .rangeFunc f ps a b,e,u,s=>rangeFuncA C rec cf f ps a b e u s
 | .exit id,e,u,s=> .fin (.exit id) e u s
 | .scope b,e,u,s=>match codeA C rec n cf b e u s with
   | .fin (.goto _) _ _ _=> .fail
   | x=>x
 | .goto l,e,u,s=> .fin (.goto l) e u s
 | .ret,e,u,s=> .fin .ret e u s
 | .refuse _,_,_,_=> .fail
def resultsA (C:Cx) (e:E) (s:St):List ResultVar->Option (List Value)
 | []=>some []
 | .tmp t::r=>match e.tmps.get t with
   | some v=>(resultsA C e s r).map (v::·)
   | none=>none
 | .cell a t::r=>match e.tmps.get a with
   | some p=>match loadA C t p s with
     | some v=>(resultsA C e s r).map (v::·)
     | none=>none
   | none=>none
def tupleOf:List Value->Value
 | [v]=>v
 | vs=> .tuple ⟨vs⟩
def settleA:FrameMode->FrameMode
 | .panicking ({recovered:=true,..}::older)=>
   match older.dropWhile (!·.goexit) with
   | []=> .returning
   | rest=> .panicking rest
 | m=>m
def raisedA (u:FrameMode) (chain:List PanicEntry):FrameMode:=
 match u with
 | .panicking old=> .panicking (chain++old)
 | _=> .panicking chain
def notRun:FrameMode->Bool
 | .run=>false
 | _=>true
def leaveA (C:Cx) (rec:Rec) (fn:Func) (u0:FrameMode) (e:E):Nat->List Deferred->FrameMode->St->FOut
 | 0,_,_,_=> .fail
 | n+1,ds,m,s=>
   match ds with
   | []=>match m with
     | .returning=>match resultsA C e s fn.results.toList with
       | some vs=> .returned (tupleOf vs) u0 s
       | none=> .fail
     | .panicking chain=> .panicked chain u0 s
     | .run=> .fail
   | d::ds=>
     bif notRun m then
      match d.target with
      | .collected r=>match s.heap.get r with
        | some (.deferred (some cs))=>leaveA C rec fn u0 e n (cs++ds) m {s with heap:=s.heap.set r (.deferred none)}
        | _=> .fail
      | .fn _ _=>
        match invokeA C d.target d.args.toList s with
        | .ok (.enter f args) s=>match rec.call true f args m s with
          | .returned _ m s=>leaveA C rec fn u0 e n ds (settleA m) s
          | .panicked chain m s=>leaveA C rec fn u0 e n ds (raisedA m chain) s
          | .fail=> .fail
        | _=> .fail
      | _=> .fail
     else .fail
def argsT:List Value->Nat->T Value->T Value
 | [],_,t=>t
 | v::r,i,t=>argsT r (i+1) (t.set i v)
def callA (C:Cx) (rec:Rec) (n:Nat) (dfr:Bool) (f:FuncId) (args:List Value) (u:FrameMode) (s:St):FOut:=
 match C.funcs.get f with
 | none=> .fail
 | some fn=>match fn.body with
   | none=> .fail
   | some c=>
     bif Nat.ble args.length fn.ntmps then
      match codeA C rec n ⟨f,dfr,none⟩ c {tmps:=argsT args 0 .nil,n:=fn.ntmps,defers:=[]} u s with
      | .fin .normal e u s | .fin .ret e u s=>leaveA C rec fn u e n e.defers .returning s
      | .fin (.panic chain) e u s=>leaveA C rec fn u e n e.defers (.panicking chain) s
      | _=> .fail
     else .fail
def codeOf:X->Option Code
 | .ret=>some .ret
 | .exit id=>some (.exit id)
 | .goto l=>some (.goto l)
 | _=>none
def roundA (C:Cx) (rec:Rec) (n:Nat) (l:Nat) (args:List Value) (s:St):FOut:=
 match s.heap.get l with
 | some (.loop r)=>
   bif Nat.beq args.length r.params.size&&(C.funcs.get r.fn).isSome then
    match codeA C rec n ⟨r.fn,false,some l⟩ r.assign {tmps:=paramsT r.params.toList args r.tmps,n:=r.ntm,defers:=[]} .run s with
    | .fin .normal e _ s=>
      match s.heap.get l with
      | some (.loop r1)=>
        match r1.state with
        | .ready=>
          match codeA C rec n ⟨r.fn,false,some l⟩ r.body e .run {s with heap:=s.heap.set l (.loop {r1 with state:= .busy})} with
          | .fin (.panic chain) e _ s=>match e.defers with
            | []=> .panicked chain .run s
            | _=> .fail
          | .fin x _ _ s=>
            match s.heap.get l with
            | some (.loop r)=>
              match x with
              | .normal=> .returned (.bool true) .run {s with heap:=s.heap.set l (.loop {r with state:= .ready,pending:=none})}
              | x=>match codeOf x with
                | some c=> .returned (.bool false) .run {s with heap:=s.heap.set l (.loop {r with state:= .done,pending:=some c})}
                | none=> .fail
            | _=> .fail
          | .fail=> .fail
        | _=> .fail
      | _=> .fail
    | _=> .fail
   else .fail
 | _=> .fail
def numBlk:Option Blk->Bool
 | some (.cells (.int .i64 _::_) _ _ _)=>true
 | _=>false
def joinL:List (List UInt8)->List UInt8->List UInt8
 | [],_=>[]
 | [x],_=>x
 | x::r,sep=>x++sep++joinL r sep
def strsA:List Value->Option (List ByteArray)
 | []=>some []
 | v::r=>match v with
   | .string x=>match strsA r with
     | some l=>some (x::l)
     | none=>none
   | _=>none
def joinA (args:List Value) (s:St):Option Value:=match args with
 | [.slice (some ⟨b,o,none⟩) n c,.string sep]=>match s.heap.get b with
   | some (.cells vs _ _ _)=>match strsA ((vs.drop o).take n) with
     | some l=>bif Nat.beq l.length n&&Nat.ble n (capOf c)&&Nat.ble n 1099511627776&&Nat.blt (joinL (l.map (·.data.toList)) sep.data.toList).length 1099511627776 then
        some (.string ⟨⟨joinL (l.map (·.data.toList)) sep.data.toList⟩⟩)
       else none
     | none=>none
   | _=>none
 | _=>none
def isJoin (C:Cx) (f:Nat):Bool:=match C.joins with
 | some g=>Nat.beq g f
 | none=>false
def sureA (C:Cx) (dfr:Bool) (f:FuncId) (args:List Value) (s:St):Option Value:=match dfr,args with
 | false,a::r=>bif isJoin C f then joinA (a::r) s else none
 | false,[]=>match C.sure.get f with
   | some v=>match C.need with
     | none=>some v
     | some n=>bif Nat.blt n C.globals&&numBlk (s.heap.get n) then some v else none
   | none=>none
 | _,_=>none
def callS (C:Cx) (rec:Rec) (n:Nat) (dfr:Bool) (f:FuncId) (args:List Value) (u:FrameMode) (s:St):FOut:=
 match sureA C dfr f args s with
 | some v=> .returned v u s
 | none=>callA C rec n dfr f args u s
def recOf (C:Cx):Nat->Rec
 | 0=>{call:=fun _ _ _ _ _=> .fail,round:=fun _ _ _=> .fail}
 | n+1=>{call:=callS C (recOf C n) n,round:=roundA C (recOf C n) n}
end Go.Eng
namespace Go.Eng
theorem T.get_nil {α:Type} (n:Nat):(T.nil:T α).get n=none:=by cases n<;>rfl
theorem T.get_node {α:Type} (l r:T α) (v:Option α) (n:Nat):
 (T.node l v r).get n=match n with | 0=>v | m+1=>if m%2=0 then l.get (m/2) else r.get (m/2):=by
 cases n with
 | zero=>rfl
 | succ m=>
   show (bif Nat.beq (m%2) 0 then _ else _)=_
   by_cases h:m%2=0
   · simp [h]
   · have:Nat.beq (m%2) 0=false:=by
      cases hb:Nat.beq (m%2) 0 with
      | false=>rfl
      | true=>exact absurd (Nat.eq_of_beq_eq_true hb) h
     simp [h,this]
theorem T.eta {α:Type} (t:T α) (n:Nat):(T.node t.left t.here t.right).get n=t.get n:=by
 cases t with
 | nil=>rw [T.get_node,T.get_nil];cases n with
   | zero=>rfl
   | succ m=>simp [T.left,T.right,T.get_nil]
 | node l v r=>rfl
theorem T.get_put {α:Type} (a:Option α):∀(f:Nat) (t:T α) (n m:Nat),n<f->(T.put a f t n).get m=if m=n then a else t.get m:=by
 intro f
 induction f with
 | zero=>intro t n m h;omega
 | succ f ih=>
   intro t n m h
   rw [<-T.eta t m]
   cases n with
   | zero=>
     show (T.node t.left a t.right).get m=_
     rw [T.get_node,T.get_node]
     cases m<;>simp
   | succ k=>
     show (bif Nat.beq (k%2) 0 then T.node (T.put a f t.left (k/2)) t.here t.right else T.node t.left t.here (T.put a f t.right (k/2))).get m=_
     by_cases hk:k%2=0
     · rw [show Nat.beq (k%2) 0=true from by rw [hk];rfl]
       simp only [cond_true]
       rw [T.get_node,T.get_node]
       cases m with
       | zero=>simp
       | succ j=>
         simp only
         by_cases hj:j%2=0
         · rw [if_pos hj,if_pos hj,ih _ _ _ (by omega)]
           by_cases e:j=k
           · subst e;simp
           · rw [if_neg (by omega),if_neg (by omega)]
         · rw [if_neg hj,if_neg hj,if_neg (by omega)]
     · have hb:Nat.beq (k%2) 0=false:=by
        cases hb:Nat.beq (k%2) 0 with
        | false=>rfl
        | true=>exact absurd (Nat.eq_of_beq_eq_true hb) hk
       simp only [hb,cond_false]
       rw [T.get_node,T.get_node]
       cases m with
       | zero=>simp
       | succ j=>
         simp only
         by_cases hj:j%2=0
         · rw [if_pos hj,if_pos hj,if_neg (by omega)]
         · rw [if_neg hj,if_neg hj,ih _ _ _ (by omega)]
           by_cases e:j=k
           · subst e;simp
           · rw [if_neg (by omega),if_neg (by omega)]
theorem T.get_set {α:Type} (t:T α) (n m:Nat) (a:α):(t.set n a).get m=if m=n then some a else t.get m:=
 T.get_put _ _ _ _ _ (by omega)
theorem T.get_del {α:Type} (t:T α) (n m:Nat):(t.del n).get m=if m=n then none else t.get m:=
 T.get_put _ _ _ _ _ (by omega)
structure Pl where
 block:Nat
 off:Nat
 slack:Nat
 sp:Option Nat:=none
abbrev Phi:=Nat->Pl
def denFn (φ:Phi):Fn->Fn
 | .yield l=> .yield (φ l).block
 | f=>f
def spotOf (φ:Phi) (a:Addr):Nat:=
 match a.spot with
 | none=>0
 | some k=>if (φ a.block).slack=0 then 0 else k-1
def spOf (φ:Phi) (a:Addr):Option Nat:=
 match a.spot with
 | some 0=>if (φ a.block).slack=0 then (φ a.block).sp else none
 | _=>none
@[simp] theorem spOf_none (φ:Phi) (b o:Nat):spOf φ ⟨b,o,none⟩=none:=rfl
theorem spOf_ne (φ:Phi) (b o:Nat) {k:Nat} (h:k≠0):spOf φ ⟨b,o,some k⟩=none:=by
 cases k with
 | zero=>exact absurd rfl h
 | succ k=>rfl
@[simp] theorem spotOf_none (φ:Phi) (b o:Nat):spotOf φ ⟨b,o,none⟩=0:=rfl
mutual
def den (φ:Phi):Value->Value
 | .pointer (some a)=> .pointer (some ⟨(φ a.block).block,(φ a.block).off+a.off,none⟩)
 | .slice (some a) l c=> .slice (some ⟨(φ a.block).block,(φ a.block).off+a.off+spotOf φ a,spOf φ a⟩) l (c/2+c%2*(φ a.block).slack)
 | .map (some b)=> .map (some (φ b).block)
 | .chan (some b)=> .chan (some (φ b).block)
 | .func fn f c=> .func (denFn φ fn) (denA φ f) (denA φ c)
 | .iface t v=> .iface t (den φ v)
 | .agg cs=> .agg (denA φ cs)
 | .tuple cs=> .tuple (denA φ cs)
 | .bool b=> .bool b
 | .int k n=> .int k n
 | .float k b=> .float k b
 | .complex k a b=> .complex k a b
 | .string s=> .string s
 | .pointer none=> .pointer none
 | .slice none l c=> .slice none l c
 | .map none=> .map none
 | .chan none=> .chan none
 | .nilFunc=> .nilFunc
 | .nilIface=> .nilIface
def denA (φ:Phi):Array Value->Array Value
 | ⟨l⟩=>⟨denL φ l⟩
def denL (φ:Phi):List Value->List Value
 | []=>[]
 | v::r=>den φ v::denL φ r
end
def okFn (D:Nat->Prop):Fn->Prop
 | .yield l=>D l
 | .func _=>True
 | .method _=>True
 | _=>True
mutual
def Ok (D:Nat->Prop):Value->Prop
 | .pointer (some a)=>a.spot=none/\D a.block
 | .slice (some a) _ _=>True/\D a.block
 | .map (some b)=>D b
 | .chan (some b)=>D b
 | .func fn f c=>okFn D fn/\OkA D f/\OkA D c
 | .iface _ v=>Ok D v
 | .agg cs=>OkA D cs
 | .tuple cs=>OkA D cs
 | _=>True
def OkA (D:Nat->Prop):Array Value->Prop
 | ⟨l⟩=>OkL D l
def OkL (D:Nat->Prop):List Value->Prop
 | []=>True
 | v::r=>Ok D v/\OkL D r
end
theorem denL_map (φ:Phi) (l:List Value):denL φ l=l.map (den φ):=by
 induction l with
 | nil=>simp [denL]
 | cons v r ih=>simp [denL,ih]
theorem denA_map (φ:Phi) (a:Array Value):denA φ a=a.map (den φ):=by
 cases a with
 | mk l=>simp [denA,denL_map]
theorem OkL_iff (D:Nat->Prop) (l:List Value):OkL D l↔∀v∈l,Ok D v:=by
 induction l with
 | nil=>simp [OkL]
 | cons v r ih=>simp [OkL,ih]
theorem OkA_iff (D:Nat->Prop) (a:Array Value):OkA D a↔∀v∈a.toList,Ok D v:=by
 cases a with
 | mk l=>simp [OkA,OkL_iff]
mutual
theorem den_congr {φ ψ:Phi} {D:Nat->Prop} (h:∀i,D i->φ i=ψ i):∀(v:Value),Ok D v->den φ v=den ψ v
 | .pointer (some a),hv=>by simp only [Ok] at hv;simp only [den,h _ hv.2]
 | .slice (some a) _ _,hv=>by simp only [Ok] at hv;simp only [den,spotOf,spOf,h _ hv.2]
 | .map (some b),hv=>by simp only [Ok] at hv;simp only [den,h _ hv]
 | .chan (some b),hv=>by simp only [Ok] at hv;simp only [den,h _ hv]
 | .func fn f c,hv=>by
   simp only [Ok] at hv
   have hf:denFn φ fn=denFn ψ fn:=by cases fn<;>simp only [okFn] at hv<;>simp [denFn];rw [h _ hv.1]
   simp only [den,hf,denA_congr h f hv.2.1,denA_congr h c hv.2.2]
 | .iface _ v,hv=>by simp only [Ok] at hv;simp only [den,den_congr h v hv]
 | .agg cs,hv=>by simp only [Ok] at hv;simp only [den,denA_congr h cs hv]
 | .tuple cs,hv=>by simp only [Ok] at hv;simp only [den,denA_congr h cs hv]
 | .bool _,_ | .int _ _,_ | .float _ _,_ | .complex _ _ _,_ | .string _,_ | .pointer none,_ | .slice none _ _,_ | .map none,_ | .chan none,_ | .nilFunc,_ | .nilIface,_=>by simp only [den]
theorem denA_congr {φ ψ:Phi} {D:Nat->Prop} (h:∀i,D i->φ i=ψ i):∀(a:Array Value),OkA D a->denA φ a=denA ψ a
 | ⟨l⟩,hv=>by simp only [OkA] at hv;simp only [denA,denL_congr h l hv]
theorem denL_congr {φ ψ:Phi} {D:Nat->Prop} (h:∀i,D i->φ i=ψ i):∀(l:List Value),OkL D l->denL φ l=denL ψ l
 | [],_=>by simp only [denL]
 | v::r,hv=>by simp only [OkL] at hv;simp only [denL,den_congr h v hv.1,denL_congr h r hv.2]
end
mutual
theorem Ok.mono {D D':Nat->Prop} (h:∀i,D i->D' i):∀(v:Value),Ok D v->Ok D' v
 | .pointer (some a),hv=>by simp only [Ok] at hv ⊢;exact ⟨hv.1,h _ hv.2⟩
 | .slice (some a) _ _,hv=>by simp only [Ok] at hv ⊢;exact ⟨hv.1,h _ hv.2⟩
 | .map (some b),hv=>by simp only [Ok] at hv ⊢;exact h _ hv
 | .chan (some b),hv=>by simp only [Ok] at hv ⊢;exact h _ hv
 | .func fn f c,hv=>by
   simp only [Ok] at hv ⊢
   refine ⟨?_,OkA.mono h f hv.2.1,OkA.mono h c hv.2.2⟩
   cases fn<;>simp only [okFn] at hv ⊢;exact h _ hv.1
 | .iface _ v,hv=>by simp only [Ok] at hv ⊢;exact Ok.mono h v hv
 | .agg cs,hv=>by simp only [Ok] at hv ⊢;exact OkA.mono h cs hv
 | .tuple cs,hv=>by simp only [Ok] at hv ⊢;exact OkA.mono h cs hv
 | .bool _,_ | .int _ _,_ | .float _ _,_ | .complex _ _ _,_ | .string _,_ | .pointer none,_ | .slice none _ _,_ | .map none,_ | .chan none,_ | .nilFunc,_ | .nilIface,_=>by simp only [Ok]
theorem OkA.mono {D D':Nat->Prop} (h:∀i,D i->D' i):∀(a:Array Value),OkA D a->OkA D' a
 | ⟨l⟩,hv=>by simp only [OkA] at hv ⊢;exact OkL.mono h l hv
theorem OkL.mono {D D':Nat->Prop} (h:∀i,D i->D' i):∀(l:List Value),OkL D l->OkL D' l
 | [],_=>by simp only [OkL]
 | v::r,hv=>by simp only [OkL] at hv ⊢;exact ⟨Ok.mono h v hv.1,OkL.mono h r hv.2⟩
end
mutual
theorem closed_den (φ:Phi) (D:Nat->Prop):∀(v:Value),closedB v=true->den φ v=v/\Ok D v
 | .func (.func _) f c,hv=>by
   simp only [closedB,Bool.and_eq_true] at hv
   have h1:=closed_denA φ D f hv.1
   have h2:=closed_denA φ D c hv.2
   simp only [den,denFn,Ok,okFn,h1.1,h2.1]
   exact ⟨trivial,trivial,h1.2,h2.2⟩
 | .iface _ v,hv=>by
   simp only [closedB] at hv
   have h1:=closed_den φ D v hv
   simp only [den,Ok,h1.1];exact ⟨trivial,h1.2⟩
 | .agg cs,hv=>by
   simp only [closedB] at hv
   have h1:=closed_denA φ D cs hv
   simp only [den,Ok,h1.1];exact ⟨trivial,h1.2⟩
 | .tuple cs,hv=>by
   simp only [closedB] at hv
   have h1:=closed_denA φ D cs hv
   simp only [den,Ok,h1.1];exact ⟨trivial,h1.2⟩
 | .bool _,_ | .int _ _,_ | .float _ _,_ | .complex _ _ _,_ | .string _,_ | .pointer none,_ | .slice none _ _,_ | .map none,_ | .chan none,_ | .nilFunc,_ | .nilIface,_=>by simp only [den,Ok];exact ⟨trivial,trivial⟩
 | .pointer (some _),hv | .slice (some _) _ _,hv | .map (some _),hv | .chan (some _),hv
 | .func (.method _) _ _,hv | .func (.methodOf _ _) _ _,hv | .func (.via _ _ _ _) _ _,hv | .func (.yield _) _ _,hv=>by simp [closedB] at hv
theorem closed_denA (φ:Phi) (D:Nat->Prop):∀(a:Array Value),closedA a=true->denA φ a=a/\OkA D a
 | ⟨l⟩,hv=>by
   simp only [closedA] at hv
   have h1:=closed_denL φ D l hv
   simp only [denA,OkA,h1.1];exact ⟨trivial,h1.2⟩
theorem closed_denL (φ:Phi) (D:Nat->Prop):∀(l:List Value),closedL l=true->denL φ l=l/\OkL D l
 | [],_=>by simp only [denL,OkL];exact ⟨trivial,trivial⟩
 | v::r,hv=>by
   simp only [closedL,Bool.and_eq_true] at hv
   have h1:=closed_den φ D v hv.1
   have h2:=closed_denL φ D r hv.2
   simp only [denL,OkL,h1.1,h2.1];exact ⟨trivial,h1.2,h2.2⟩
end
end Go.Eng
namespace Go.Eng
def denTarget (φ:Phi):Target->Target
 | .fn f c=> .fn (denFn φ f) (denA φ c)
 | .collected r=> .collected (φ r).block
 | t=>t
def okTarget (D:Nat->Prop):Target->Prop
 | .fn f c=>okFn D f/\OkA D c
 | .collected r=>D r
 | .coroexit _=>False
 | _=>True
def denD (φ:Phi) (d:Deferred):Deferred:={target:=denTarget φ d.target,args:=denA φ d.args}
def OkD (D:Nat->Prop) (d:Deferred):Prop:=okTarget D d.target/\OkA D d.args
def denE (φ:Phi) (e:MapEntry):MapEntry:={key:=den φ e.key,val:=den φ e.val,born:=e.born}
theorem denFn_congr {φ ψ:Phi} {D:Nat->Prop} (h:∀i,D i->φ i=ψ i) (f:Fn) (hf:okFn D f):denFn φ f=denFn ψ f:=by
 cases f<;>simp only [okFn] at hf<;>simp [denFn];rw [h _ hf]
theorem okFn.mono {D D':Nat->Prop} (h:∀i,D i->D' i) (f:Fn) (hf:okFn D f):okFn D' f:=by
 cases f<;>simp only [okFn] at hf ⊢;exact h _ hf
theorem denTarget_congr {φ ψ:Phi} {D:Nat->Prop} (h:∀i,D i->φ i=ψ i) (t:Target) (ht:okTarget D t):denTarget φ t=denTarget ψ t:=by
 cases t<;>simp only [okTarget] at ht<;>simp only [denTarget]
 · rw [denFn_congr h _ ht.1,denA_congr h _ ht.2]
 · rw [h _ ht]
theorem okTarget.mono {D D':Nat->Prop} (h:∀i,D i->D' i) (t:Target) (ht:okTarget D t):okTarget D' t:=by
 cases t<;>simp only [okTarget] at ht ⊢
 · exact ⟨okFn.mono h _ ht.1,OkA.mono h _ ht.2⟩
 · exact h _ ht
theorem denD_congr {φ ψ:Phi} {D:Nat->Prop} (h:∀i,D i->φ i=ψ i) (d:Deferred) (hd:OkD D d):denD φ d=denD ψ d:=by
 simp only [denD,denTarget_congr h _ hd.1,denA_congr h _ hd.2]
theorem OkD.mono {D D':Nat->Prop} (h:∀i,D i->D' i) (d:Deferred) (hd:OkD D d):OkD D' d:=⟨okTarget.mono h _ hd.1,OkA.mono h _ hd.2⟩
def TRel (φ:Phi) (D:Nat->Prop) (t:T Value) (n:Nat) (a:Array Value):Prop:=
 a.size=n/\∀i v,t.get i=some v->Ok D v/\a[i]? =some (den φ v)
theorem TRel.mono {φ φ':Phi} {D D':Nat->Prop} {t:T Value} {n:Nat} {a:Array Value} (h:TRel φ D t n a) (hD:∀i,D i->D' i) (hφ:∀i,D i->φ' i=φ i):
 TRel φ' D' t n a:=
 ⟨h.1,fun i v hi=>⟨Ok.mono hD v (h.2 i v hi).1,by rw [den_congr hφ v (h.2 i v hi).1];exact (h.2 i v hi).2⟩⟩
def writable:Blk->Bool
 | .cells _ _ st _=>Nat.beq st 0
 | _=>true
def parOf:Blk->Option Nat
 | .cells _ _ _ p=>p
 | _=>none
def BlkIs (C:Cx) (φ:Phi) (D:Nat->Prop) (w:World) (p:Pl):Blk->Prop
 | .cells vs elem st _=>OkL D vs/\∃c el fr sz,w.heap[p.block]? =some (.cells c el fr)/\C.size elem=some sz/\p.off+vs.length+p.slack*sz<=c.size/\
    (∀j v,vs[j]? =some v->c[p.off+j]? =some (den φ v))/\(st<2->el=elem/\(fr.1=fr.2\/c.size<=fr.1)/\p.off%sz=0)
 | .map es clock=>(∀e∈es,Ok D e.key/\Ok D e.val)/\w.heap[p.block]? =some (.map (es.map (denE φ)).toArray clock)
 | .sIter s pos=>p.off=0/\w.heap[p.block]? =some (.stringIter ⟨⟨s⟩⟩ pos)
 | .mIter m since seen st=>(∀i,m=some i->D i)/\p.off=0/\w.heap[p.block]? =some (.mapIter (m.map fun i=>(φ i).block) since seen.toArray st)
 | .loop r=>D r.defers/\∃tm,TRel φ D r.tmps r.ntm tm/\
    w.heap[p.block]? =some (.loop {state:=r.state,pending:=r.pending,fn:=r.fn,tmps:=tm,params:=r.params,assign:=r.assign,body:=r.body,defers:=(φ r.defers).block})
 | .deferred ds=>(∀l,ds=some l->∀d∈l,OkD D d)/\w.heap[p.block]? =some (.deferred (ds.map (·.map (denD φ))))
 | .chan cap buf sent rcvd=>OkL D buf/\w.heap[p.block]? =some (.chan cap (denL φ buf).toArray false sent rcvd false)
theorem BlkIs.mono {C:Cx} {φ φ':Phi} {D D':Nat->Prop} {w w':World} {p:Pl} {b:Blk} (h:BlkIs C φ D w p b) (hD:∀i,D i->D' i) (hφ:∀i,D i->φ' i=φ i)
 (hw:w'.heap[p.block]? =w.heap[p.block]?):BlkIs C φ' D' w' p b:=by
 cases b with
 | cells vs elem st par=>
   obtain ⟨ho,c,el,fr,sz,h1,h2,h3,h4,h5⟩:=h
   refine ⟨OkL.mono hD vs ho,c,el,fr,sz,hw.trans h1,h2,h3,fun j v hj=> ?_,h5⟩
   rw [den_congr hφ v ((OkL_iff D vs).1 ho v (List.mem_of_getElem? hj))]
   exact h4 j v hj
 | map es clock=>
   obtain ⟨ho,h1⟩:=h
   refine ⟨fun e he=>⟨Ok.mono hD _ (ho e he).1,Ok.mono hD _ (ho e he).2⟩,hw.trans (h1.trans ?_)⟩
   rw [List.map_congr_left (g:=denE φ') fun e he=>by simp only [denE,den_congr hφ _ (ho e he).1,den_congr hφ _ (ho e he).2]]
 | sIter s pos=>exact ⟨h.1,hw.trans h.2⟩
 | mIter m since seen st=>
   obtain ⟨ho,h0,h1⟩:=h
   refine ⟨fun i hi=>hD i (ho i hi),h0,hw.trans (h1.trans ?_)⟩
   cases m with
   | none=>rfl
   | some i=>simp only [Option.map_some,hφ i (ho i rfl)]
 | loop r=>
   obtain ⟨ho,tm,h1,h2⟩:=h
   refine ⟨hD _ ho,tm,h1.mono hD hφ,hw.trans (h2.trans ?_)⟩
   rw [hφ _ ho]
 | chan cap buf sent rcvd=>
   obtain ⟨ho,h1⟩:=h
   exact ⟨OkL.mono hD buf ho,hw.trans (h1.trans (by rw [denL_congr (ψ:=φ') (fun i hi=>(hφ i hi).symm) buf ho]))⟩
 | deferred ds=>
   obtain ⟨ho,h1⟩:=h
   refine ⟨fun l hl d hd=>OkD.mono hD d (ho l hl d hd),hw.trans (h1.trans ?_)⟩
   cases ds with
   | none=>rfl
   | some l=>simp only [Option.map_some];rw [List.map_congr_left (g:=denD φ') fun d hd=>(denD_congr hφ d (ho l rfl d hd)).symm]
structure Rel (C:Cx) (φ:Phi) (D:Nat->Prop) (h:T Blk) (w:World):Prop where
 dom:∀i b,h.get i=some b->D i
 blk:∀i b,h.get i=some b->BlkIs C φ D w (φ i) b
 sep:∀i j bi bj,h.get i=some bi->h.get j=some bj->writable bi=true->(φ i).block=(φ j).block->i=j\/parOf bi=some j
 glob:∀g,g<C.globals->D g/\φ g=⟨g,0,0,none⟩
structure Ext (φ:Phi) (D:Nat->Prop) (h:T Blk) (w:World) (φ':Phi) (D':Nat->Prop) (h':T Blk) (w':World):Prop where
 dom:∀i,D i->D' i
 phi:∀i,D i->φ' i=φ i
 size:w.heap.size<=w'.heap.size
 os:w'.os=w.os
 tape:w'.tape=w.tape
 output:w'.output=w.output
 frame:∀b,b<w.heap.size->(∀i bi,h.get i=some bi->writable bi=true->(φ i).block≠b)->w'.heap[b]? =w.heap[b]?
 range:∀i bi,h'.get i=some bi->writable bi=true->(φ' i).block<w.heap.size->∃j bj,h.get j=some bj/\writable bj=true/\(φ j).block=(φ' i).block
 all:∀i bi,h'.get i=some bi->(φ' i).block<w.heap.size->∃j bj,h.get j=some bj/\(φ j).block=(φ' i).block
theorem Ext.refl (φ:Phi) (D:Nat->Prop) (h:T Blk) (w:World):Ext φ D h w φ D h w:=
 ⟨fun _ h=>h,fun _ _=>rfl,Nat.le_refl _,rfl,rfl,rfl,fun _ _ _=>rfl,fun i bi hi hw _=>⟨i,bi,hi,hw,rfl⟩,fun i bi hi _=>⟨i,bi,hi,rfl⟩⟩
theorem Ext.trans {φ φ' φ'':Phi} {D D' D'':Nat->Prop} {h h' h'':T Blk} {w w' w'':World} (a:Ext φ D h w φ' D' h' w') (b:Ext φ' D' h' w' φ'' D'' h'' w''):
 Ext φ D h w φ'' D'' h'' w'' where
 dom i hi:=b.dom i (a.dom i hi)
 phi i hi:=(b.phi i (a.dom i hi)).trans (a.phi i hi)
 size:=Nat.le_trans a.size b.size
 os:=b.os.trans a.os
 tape:=b.tape.trans a.tape
 output:=b.output.trans a.output
 frame k hk hno:=by
  rw [b.frame k (Nat.lt_of_lt_of_le hk a.size),a.frame k hk hno]
  intro i bi hi hw e
  obtain ⟨j,bj,hj,hwj,ej⟩:=a.range i bi hi hw (by rw [e];exact hk)
  exact hno j bj hj hwj (ej.trans e)
 range i bi hi hw hlt:=by
  obtain ⟨j,bj,hj,hwj,ej⟩:=b.range i bi hi hw (Nat.lt_of_lt_of_le hlt a.size)
  obtain ⟨k,bk,hk,hwk,ek⟩:=a.range j bj hj hwj (by rw [ej];exact hlt)
  exact ⟨k,bk,hk,hwk,ek.trans ej⟩
 all i bi hi hlt:=by
  obtain ⟨j,bj,hj,ej⟩:=b.all i bi hi (Nat.lt_of_lt_of_le hlt a.size)
  obtain ⟨k,bk,hk,ek⟩:=a.all j bj hj (by rw [ej];exact hlt)
  exact ⟨k,bk,hk,ek.trans ej⟩
theorem Rel.drew {C:Cx} {φ:Phi} {D:Nat->Prop} {h:T Blk} {w w':World} (hr:Rel C φ D h w) (hw:w'.heap=w.heap):Rel C φ D h w':=
 ⟨hr.dom,fun i b hi=>(hr.blk i b hi).mono (fun _ h=>h) (fun _ _=>rfl) (by rw [hw]),hr.sep,hr.glob⟩
theorem Ext.drew {φ:Phi} {D:Nat->Prop} {h:T Blk} {w w':World} (hw:w'.heap=w.heap) (ho:w'.os=w.os) (ht:w'.tape=w.tape) (hp:w'.output=w.output):Ext φ D h w φ D h w':=
 ⟨fun _ h=>h,fun _ _=>rfl,by rw [hw];exact Nat.le_refl _,ho,ht,hp,fun _ _ _=>by rw [hw],fun i bi hi hw _=>⟨i,bi,hi,hw,rfl⟩,fun i bi hi _=>⟨i,bi,hi,rfl⟩⟩
def updPhi (φ:Phi) (n:Nat) (p:Pl):Phi:=fun i=>if i=n then p else φ i
def addD (D:Nat->Prop) (n:Nat):Nat->Prop:=fun i=>D i\/i=n
theorem heap_lt {w:World} {b:Nat} {o:Obj} (h:w.heap[b]? =some o):b<w.heap.size:=(Array.getElem?_eq_some_iff.1 h).1
theorem BlkIs.lt {C:Cx} {φ:Phi} {D:Nat->Prop} {w:World} {p:Pl} {b:Blk} (h:BlkIs C φ D w p b):p.block<w.heap.size:=by
 cases b with
 | cells vs elem st par=>obtain ⟨_,c,el,fr,sz,h1,_⟩:=h;exact heap_lt h1
 | map es clock=>exact heap_lt h.2
 | sIter s pos=>exact heap_lt h.2
 | chan cap buf sent rcvd=>exact heap_lt h.2
 | mIter m since seen st=>exact heap_lt h.2.2
 | loop r=>obtain ⟨_,tm,_,h2⟩:=h;exact heap_lt h2
 | deferred ds=>exact heap_lt h.2
theorem Rel.new {C:Cx} {φ:Phi} {D:Nat->Prop} {h:T Blk} {w w':World} (hr:Rel C φ D h w) {n:Nat} (hn:¬D n) {o:Obj} {sl off:Nat} {b:Blk}
 (hw:w'.heap=w.heap.push o) (ho:w'.os=w.os) (ht:w'.tape=w.tape) (hp:w'.output=w.output)
 (hb:BlkIs C (updPhi φ n ⟨w.heap.size,off,sl,none⟩) (addD D n) w' ⟨w.heap.size,off,sl,none⟩ b):
 Rel C (updPhi φ n ⟨w.heap.size,off,sl,none⟩) (addD D n) (h.set n b) w'/\
 Ext φ D h w (updPhi φ n ⟨w.heap.size,off,sl,none⟩) (addD D n) (h.set n b) w':=by
 have hφ:∀i,D i->updPhi φ n ⟨w.heap.size,off,sl,none⟩ i=φ i:=fun i hi=>by
  unfold updPhi;rw [if_neg];intro e;subst e;exact hn hi
 have hold:∀i bi,h.get i=some bi->i≠n:=fun i bi hi e=>hn (e ▸ hr.dom i bi hi)
 have hlt:∀i bi,h.get i=some bi->(φ i).block<w.heap.size:=fun i bi hi=>(hr.blk i bi hi).lt
 have hkeep:∀k,k<w.heap.size->w'.heap[k]? =w.heap[k]? :=fun k hk=>by rw [hw,Array.getElem?_push,if_neg (by omega)]
 refine ⟨⟨?_, ?_, ?_, ?_⟩,⟨fun i hi=> .inl hi,hφ,by rw [hw];simp,ho,ht,hp,fun k hk _=>hkeep k hk, ?_, ?_⟩⟩
 · intro i bi hi
   rw [T.get_set] at hi
   split at hi
   · rename_i e;exact .inr e
   · exact .inl (hr.dom i bi hi)
 · intro i bi hi
   rw [T.get_set] at hi
   split at hi
   · rename_i e
     cases hi
     have:updPhi φ n ⟨w.heap.size,off,sl,none⟩ i=⟨w.heap.size,off,sl,none⟩:=by unfold updPhi;rw [if_pos e]
     rw [this];exact hb
   · have hd:=hr.dom i bi hi
     rw [hφ i hd]
     exact (hr.blk i bi hi).mono (fun _ h=> .inl h) hφ (hkeep _ (hlt i bi hi))
 · intro i j bi bj hi hj hwr e
   rw [T.get_set] at hi hj
   by_cases ei:i=n<;>by_cases ej:j=n
   · left;omega
   · rw [if_neg ej] at hj
     exfalso
     have h1:updPhi φ n ⟨w.heap.size,off,sl,none⟩ i=⟨w.heap.size,off,sl,none⟩:=by unfold updPhi;rw [if_pos ei]
     rw [h1,hφ j (hr.dom j bj hj)] at e
     have:=hlt j bj hj
     simp at e
     omega
   · rw [if_neg ei] at hi
     exfalso
     have h1:updPhi φ n ⟨w.heap.size,off,sl,none⟩ j=⟨w.heap.size,off,sl,none⟩:=by unfold updPhi;rw [if_pos ej]
     rw [h1,hφ i (hr.dom i bi hi)] at e
     have:=hlt i bi hi
     simp at e
     omega
   · rw [if_neg ei] at hi;rw [if_neg ej] at hj
     rw [hφ i (hr.dom i bi hi),hφ j (hr.dom j bj hj)] at e
     exact hr.sep i j bi bj hi hj hwr e
 · intro g hg
   have:=hr.glob g hg
   exact ⟨.inl this.1,(hφ g this.1).trans this.2⟩
 · intro i bi hi hwr hl
   rw [T.get_set] at hi
   split at hi
   · rename_i e
     exfalso
     have h1:updPhi φ n ⟨w.heap.size,off,sl,none⟩ i=⟨w.heap.size,off,sl,none⟩:=by unfold updPhi;rw [if_pos e]
     rw [h1] at hl
     simp at hl
   · rw [hφ i (hr.dom i bi hi)] at hl ⊢
     exact ⟨i,bi,hi,hwr,rfl⟩
 · intro i bi hi hl
   rw [T.get_set] at hi
   split at hi
   · rename_i e
     exfalso
     have h1:updPhi φ n ⟨w.heap.size,off,sl,none⟩ i=⟨w.heap.size,off,sl,none⟩:=by unfold updPhi;rw [if_pos e]
     rw [h1] at hl
     simp at hl
   · rw [hφ i (hr.dom i bi hi)] at hl ⊢
     exact ⟨i,bi,hi,rfl⟩
theorem Rel.del {C:Cx} {φ:Phi} {D:Nat->Prop} {h:T Blk} {w:World} (hr:Rel C φ D h w) (q:Nat):Rel C φ D (h.del q) w:=by
 have hg:∀i b,(h.del q).get i=some b->h.get i=some b:=fun i b hi=>by
  rw [T.get_del] at hi;split at hi
  · cases hi
  · exact hi
 exact ⟨fun i b hi=>hr.dom i b (hg i b hi),fun i b hi=>hr.blk i b (hg i b hi),fun i j bi bj hi hj=>hr.sep i j bi bj (hg i bi hi) (hg j bj hj),hr.glob⟩
theorem Ext.del {φ:Phi} {D:Nat->Prop} {h:T Blk} {w:World} (q:Nat):Ext φ D h w φ D (h.del q) w:=by
 refine ⟨fun _ h=>h,fun _ _=>rfl,Nat.le_refl _,rfl,rfl,rfl,fun _ _ _=>rfl,fun i bi hi hw _=>⟨i,bi, ?_,hw,rfl⟩,fun i bi hi _=>⟨i,bi, ?_,rfl⟩⟩<;>
 · rw [T.get_del] at hi;split at hi
   · cases hi
   · exact hi
theorem Rel.write {C:Cx} {φ:Phi} {D:Nat->Prop} {h:T Blk} {w w':World} (hr:Rel C φ D h w) {id:Nat} {b b':Blk} (hid:h.get id=some b) (hwr:writable b=true)
 (hpar:∀q,parOf b=some q->h.get q=none) (hp':∀q,parOf b'=some q->parOf b=some q)
 (hsz:w'.heap.size=w.heap.size) (hother:∀k,k≠(φ id).block->w'.heap[k]? =w.heap[k]?) (ho:w'.os=w.os) (ht:w'.tape=w.tape) (hp:w'.output=w.output)
 (hb:BlkIs C φ D w' (φ id) b'):
 Rel C φ D (h.set id b') w'/\Ext φ D h w φ D (h.set id b') w':=by
 have halone:∀j bj,h.get j=some bj->j≠id->(φ j).block≠(φ id).block:=fun j bj hj hne e=>by
  rcases hr.sep id j b bj hid hj hwr e.symm with e' | e'
  · exact hne e'.symm
  · rw [hpar j e'] at hj;cases hj
 refine ⟨⟨?_, ?_, ?_,hr.glob⟩,⟨fun _ h=>h,fun _ _=>rfl,Nat.le_of_eq hsz.symm,ho,ht,hp, ?_, ?_, ?_⟩⟩
 · intro i bi hi
   rw [T.get_set] at hi
   split at hi
   · rename_i e;rw [e];exact hr.dom id b hid
   · exact hr.dom i bi hi
 · intro i bi hi
   rw [T.get_set] at hi
   split at hi
   · rename_i e;cases hi;rw [e];exact hb
   · rename_i e
     exact (hr.blk i bi hi).mono (fun _ h=>h) (fun _ _=>rfl) (hother _ (halone i bi hi e))
 · intro i j bi bj hi hj hw e
   rw [T.get_set] at hi hj
   by_cases ei:i=id<;>by_cases ej:j=id
   · left;omega
   · rw [if_neg ej] at hj
     rw [ei] at e
     exact absurd e.symm (halone j bj hj ej)
   · rw [if_neg ei] at hi
     rw [ej] at e
     exact absurd e (halone i bi hi ei)
   · rw [if_neg ei] at hi;rw [if_neg ej] at hj
     exact hr.sep i j bi bj hi hj hw e
 · intro k hk hno
   exact hother k (fun e=>hno id b hid hwr e.symm)
 · intro i bi hi hw hl
   rw [T.get_set] at hi
   split at hi
   · rename_i e;exact ⟨id,b,hid,hwr,by rw [e]⟩
   · exact ⟨i,bi,hi,hw,rfl⟩
 · intro i bi hi hl
   rw [T.get_set] at hi
   split at hi
   · rename_i e;exact ⟨id,b,hid,by rw [e]⟩
   · exact ⟨i,bi,hi,rfl⟩
end Go.Eng
