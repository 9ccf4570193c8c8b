import Derived.Test.YtoajkmdddjnebaaGreatDoorEngEA
set_option linter.unusedSimpArgs false
set_option linter.unusedVariables false
namespace Go.Eng
inductive SV where
 | bool (b:Bool)
 | int (k:IntKind) (n:Int)
 | str (l:List UInt8)
 | bytes (r:Nat) (nn:Bool) (l:List UInt8)
 | imm (r:Nat) (nn:Bool) (n sz:Nat) (f:Nat->List SV)
 | nilS
 | empS
 | sl (id sz off len c:Nat) (op:Bool)
 | ptr (id sz i j:Nat)
 | ip (l:List SV)
 | nilP
 | agg (l:List SV)
 | tup (l:List SV)
 | fn (f:FuncId) (first captured:List SV)
 | yld (id:Nat)
 | nilF
 | ifc (t:TypeId) (v:SV)
 | nilI
 | map (id:Nat)
 | nilM
 | may (g:Bool) (v:SV)
 | undef
structure SDef where
 f:FuncId
 cap:List SV
 args:List SV
inductive SB where
 | cells (vs:List SV) (elem:TypeId)
 | bytes (l:List UInt8) (elem:TypeId)
 | arr (n sz:Nat) (f:Nat->List SV) (elem:TypeId)
structure SO where
 stamp:Nat
 b:SB
structure SS where
 own:T SO
 next:Nat
structure SE where
 tmps:T SV
 n:Nat
 defers:List SDef
abbrev SChain:=List (SV×Bool)
inductive SMode where
 | run
 | returning
 | panicking (c:SChain)
inductive SX where
 | normal
 | exit (id:Nat)
 | goto (l:Nat)
 | ret
 | panic (c:SChain)
def allP:List Prop->Prop->Prop
 | [],k=>k
 | p::r,k=>p/\allP r k
def ask (b:Bool) (t f:Prop):Prop:=match b with
 | true=>t
 | false=>f
def SV.one:SV->Bool
 | .agg _ | .tup _ | .may _ _ | .undef=>false
 | _=>true
def oneL:List SV->Bool
 | []=>true
 | v::r=>v.one&&oneL r
mutual
def noOwn:SV->Bool
 | .sl _ _ _ _ _ _ | .ptr _ _ _ _ | .yld _ | .map _ | .may _ _ | .undef=>false
 | .agg l=>noOwnL l
 | .tup l=>noOwnL l
 | .fn _ a c=>noOwnL a&&noOwnL c
 | .ifc _ v=>noOwn v
 | _=>true
def noOwnL:List SV->Bool
 | []=>true
 | v::r=>noOwn v&&noOwnL r
end
def SS.new (σ:SS) (b:SB):SS:={own:=σ.own.set σ.next ⟨σ.next,b⟩,next:=σ.next+1}
def SS.upd (σ:SS) (id:Nat) (b:SB):SS:={own:=σ.own.set id ⟨σ.next,b⟩,next:=σ.next+1}
def SS.drop (σ:SS) (id:Nat):SS:={own:=σ.own.del id,next:=σ.next}
mutual
def ofV:Value->Option SV
 | .bool b=>some (.bool b)
 | .int k n=>some (.int k n)
 | .string s=>some (.str s.data.toList)
 | .nilFunc=>some .nilF
 | .nilIface=>some .nilI
 | .pointer none=>some .nilP
 | .map none=>some .nilM
 | .slice none 0 0=>some .nilS
 | .iface t v=>match ofV v with
   | some v=>some (.ifc t v)
   | none=>none
 | .agg cs=>match ofVA cs with
   | some l=>some (.agg l)
   | none=>none
 | .tuple cs=>match ofVA cs with
   | some l=>some (.tup l)
   | none=>none
 | .func (.func f) a c=>match ofVA a,ofVA c with
   | some a,some c=>some (.fn f a c)
   | _,_=>none
 | _=>none
def ofVA:Array Value->Option (List SV)
 | ⟨l⟩=>ofVL l
def ofVL:List Value->Option (List SV)
 | []=>some []
 | v::r=>match ofV v,ofVL r with
   | some v,some r=>some (v::r)
   | _,_=>none
end
def SE.eval (C:Cx) (e:SE):Operand->Option SV
 | .tmp t=>e.tmps.get t
 | .const v=>ofV v
 | .global _=>none
 | .func f=>some (.fn f [] [])
def SE.put (e:SE) (d:Option Tmp) (v:SV):Option SE:=
 match d,e with
 | some t,⟨tm,n,ds⟩=>bif Nat.blt t n then some ⟨tm.set t v,n,ds⟩ else none
 | none,e=>some e
abbrev VP:=Option (List Prop×SV)
def argS (C:Cx) (e:SE) (g:Bool) (x:Operand):VP:=
 match e.eval C x with
 | some (.may g' v)=>some ([g=true->g'=true],v)
 | some v=>some ([],v)
 | none=>none
def argsS (C:Cx) (e:SE) (g:Bool):List Operand->Option (List Prop×List SV)
 | []=>some ([],[])
 | x::r=>match argS C e g x,argsS C e g r with
   | some (p,v),some (q,l)=>some (p++q,v::l)
   | _,_=>none
def cellsS:SV->Option (List SV)
 | .agg l=>some l
 | .tup _ | .may _ _ | .undef=>none
 | v=>some [v]
def zeroS (C:Cx) (t:TypeId):Option (List SV):=
 match C.zero t with
 | some z=>ofVL (cellsOf' z)
 | none=>none
def fillS (place:Nat->Option (Nat×Nat)):List (Nat×SV)->List SV->Option (List SV)
 | [],cells=>some cells
 | (i,v)::rest,cells=>
   match place i with
   | none=>none
   | some (off,size)=>match cellsS v with
     | some cs=>bif Nat.beq cs.length size then
        match writeN cells off cs with
        | some cells'=>fillS place rest cells'
        | none=>none
       else none
     | none=>none
def partsS (C:Cx) (e:SE) (g:Bool):List (Nat×Operand)->Option (List Prop×List (Nat×SV))
 | []=>some ([],[])
 | (i,x)::r=>match argS C e g x,partsS C e g r with
   | some (p,v),some (q,l)=>some (p++q,(i,v)::l)
   | _,_=>none
def buildS (C:Cx) (t:TypeId) (parts:List (Nat×SV)):Option SV:=
 match zeroS C t with
 | some z=>
   match C.und t with
   | some (.struct fields)=>
     match placesOf C fields.toList with
     | some ps=>match fillS (nth ps) parts z with
       | some l=>some (.agg l)
       | none=>none
     | none=>none
   | some (.array _ elem)=>
     match C.size elem with
     | some n=>match fillS (fun i=>some (i*n,n)) parts z with
       | some l=>some (.agg l)
       | none=>none
     | none=>none
   | _=>none
 | none=>none
def isU8 (C:Cx) (e:TypeId):Bool:=
 match C.und e with
 | some (.int .u8)=>match C.size e with
   | some n=>Nat.beq n 1
   | none=>false
 | _=>false
def byteS (l:List UInt8) (i:Nat):SV:= .int .u8 (l.getD i 0).toNat
def readS (σ:SS) (p:SV) (n:Nat):Option (List Prop×List SV):=
 match p with
 | .ip l=>match takeN n l with
   | some l=>some ([],l)
   | none=>none
 | .ptr id sz i j=>match σ.own.get id with
   | some ⟨_,.cells vs _⟩=>match takeN n (dropN (i*sz+j) vs) with
     | some l=>some ([],l)
     | none=>none
   | some ⟨_,.arr m sz' f _⟩=>bif Nat.beq sz sz' then
      match takeN n (dropN j (f i)) with
      | some l=>some ([i<m],l)
      | none=>none
     else none
   | some ⟨_,.bytes l _⟩=>bif Nat.beq n 1&&(Nat.beq sz 1&&Nat.beq j 0) then some ([i<l.length],[byteS l i]) else none
   | none=>none
 | _=>none
def loadS (C:Cx) (σ:SS) (t:TypeId) (p:SV):VP:=
 match C.und t with
 | some d=>bif isAggD d then
    match C.size t with
    | some n=>match readS σ p n with
      | some (ps,l)=>some (ps,.agg l)
      | none=>none
    | none=>none
   else match readS σ p 1 with
    | some (ps,[v])=>some (ps,v)
    | _=>none
 | none=>none
def bytesOfS:List SV->Option (List Prop×List UInt8)
 | []=>some ([],[])
 | v::r=>match v with
   | .int k n=>match bytesOfS r with
     | some (ps,l)=>bif decide (k= .u8) then some ((0<=n/\n<256)::ps,UInt8.ofNat n.toNat::l) else none
     | none=>none
   | _=>none
def writeS (σ:SS) (p:SV) (cs:List SV):Option (List Prop×SS):=
 match p with
 | .ptr id sz i j=>match σ.own.get id with
   | some ⟨_,.cells vs t⟩=>match writeN vs (i*sz+j) cs with
     | some vs'=>some ([],σ.upd id (.cells vs' t))
     | none=>none
   | some ⟨_,.arr m sz' f t⟩=>bif Nat.beq sz sz'&&noOwnL cs then
      match writeN (f i) j cs with
      | some l=>some ([i<m],σ.upd id (.arr m sz' (fun x=>bif Nat.beq x i then l else f x) t))
      | none=>none
     else none
   | some ⟨_,.bytes l t⟩=>bif Nat.beq sz 1&&Nat.beq j 0 then
      match cs with
      | [.int .u8 n]=>some ([i<l.length,0<=n/\n<256],σ.upd id (.bytes (l.set i (UInt8.ofNat n.toNat)) t))
      | _=>none
     else none
   | none=>none
 | _=>none
def storeS (C:Cx) (σ:SS) (t:TypeId) (p v:SV):Option (List Prop×SS):=
 match C.size t with
 | some n=>match cellsS v with
   | some cs=>bif Nat.beq cs.length n&&oneL cs then writeS σ p cs else none
   | none=>none
 | none=>none
def partS (C:Cx) (t:TypeId) (cs:List SV) (off:Nat):Option SV:=
 match C.und t with
 | some d=>bif isAggD d then
    match C.size t with
    | some n=>match takeN n (dropN off cs) with
      | some l=>some (.agg l)
      | none=>none
    | none=>none
   else nth cs off
 | none=>none
def fieldS (C:Cx) (t:TypeId) (x:SV) (f:Nat):Option SV:=
 match C.und t,x with
 | some (.struct fields),.agg cs=>
   match nth fields.toList f with
   | some fd=>partS C fd.type cs fd.offset
   | none=>none
 | _,_=>none
def addrS (x:SV) (n:Nat):Option SV:=
 match x with
 | .ptr id sz i j=>some (.ptr id sz i (j+n))
 | .ip l=>some (.ip (dropN n l))
 | _=>none
def fieldAddrS (C:Cx) (t:TypeId) (x:SV) (f:Nat):Option SV:=
 match C.und t with
 | some (.struct fields)=>
   match nth fields.toList f with
   | some fd=>match C.size fd.type with
     | some (_+1)=>addrS x fd.offset
     | _=>none
   | none=>none
 | _=>none
def indexAddrS (C:Cx) (t:TypeId) (x i:SV):VP:=
 match i with
 | .int _ n=>
   match C.und t,x with
   | some (.array len elem),.ptr id sz a j=>match C.size elem with
     | some m=>some ([0<=n,n.toNat<len],.ptr id sz a (j+n.toNat*m))
     | none=>none
   | some (.array len elem),.ip l=>match C.size elem with
     | some m=>some ([0<=n,n.toNat<len],.ip (dropN (n.toNat*m) l))
     | none=>none
   | some (.slice elem),.bytes _ _ l=>bif isU8 C elem then some ([0<=n,n.toNat<l.length],.ip [byteS l n.toNat]) else none
   | some (.slice elem),.imm _ _ m sz f=>match C.size elem with
     | some sz'=>bif Nat.beq sz sz' then some ([0<=n,n.toNat<m],.ip (f n.toNat)) else none
     | _=>none
   | some (.slice elem),.sl id sz off len _ _=>match C.size elem with
     | some sz'=>bif Nat.beq sz sz' then some ([0<=n,n.toNat<len],.ptr id sz (off+n.toNat) 0) else none
     | _=>none
   | _,_=>none
 | _=>none
def indexS (C:Cx) (t:TypeId) (x i:SV):VP:=
 match i with
 | .int _ n=>
   match C.und t,x with
   | some (.array len elem),.agg cs=>match C.size elem with
     | some m=>match partS C elem cs (n.toNat*m) with
       | some v=>some ([0<=n,n.toNat<len],v)
       | none=>none
     | none=>none
   | some .string,.str l=>some ([0<=n,n.toNat<l.length],byteS l n.toNat)
   | _,_=>none
 | _=>none
def intS (op:BinOp) (k:IntKind) (x y:Int):VP:=
 match op with
 | .add=>some ([],.int k (k.wrap (x+y)))
 | .sub=>some ([],.int k (k.wrap (x-y)))
 | .mul=>some ([],.int k (k.wrap (x*y)))
 | .quo=>some ([y≠0],.int k (k.wrap (x.tdiv y)))
 | .rem=>some ([y≠0],.int k (x.tmod y))
 | .and=>some ([],.int k (k.wrap (BitVec.ofInt k.bits x &&& BitVec.ofInt k.bits y).toNat))
 | .or=>some ([],.int k (k.wrap (BitVec.ofInt k.bits x ||| BitVec.ofInt k.bits y).toNat))
 | .xor=>some ([],.int k (k.wrap (BitVec.ofInt k.bits x ^^^ BitVec.ofInt k.bits y).toNat))
 | .andNot=>some ([],.int k (k.wrap (BitVec.ofInt k.bits x &&& ~~~ BitVec.ofInt k.bits y).toNat))
 | .eql=>some ([],.bool (decide (x=y)))
 | .neq=>some ([],.bool (!decide (x=y)))
 | .lss=>some ([],.bool (decide (x<y)))
 | .leq=>some ([],.bool (decide (x<=y)))
 | .gtr=>some ([],.bool (decide (y<x)))
 | .geq=>some ([],.bool (decide (y<=x)))
 | .shl=>some ([0<=y],.int k (k.wrap (x*2^(min y.toNat k.bits))))
 | .shr=>some ([0<=y],.int k (x/(2^(min y.toNat k.bits))))
def isShift:BinOp->Bool
 | .shl | .shr=>true
 | _=>false
def strS (op:BinOp) (x y:List UInt8):VP:=
 match op with
 | .add=>some ([x.length+y.length<1099511627776],.str (x++y))
 | .eql=>some ([],.bool (decide (x=y)))
 | .neq=>some ([],.bool (!decide (x=y)))
 | .lss=>some ([],.bool (ltBytes x y))
 | .leq=>some ([],.bool (ltBytes x y||decide (x=y)))
 | .gtr=>some ([],.bool (!(ltBytes x y||decide (x=y))))
 | .geq=>some ([],.bool (!ltBytes x y))
 | _=>none
def isNilS:SV->Option (List Prop×Bool)
 | .nilS | .nilP | .nilF | .nilI | .nilM=>some ([],true)
 | .bytes _ nn l=>match nn with
   | true=>some ([],false)
   | false=>some ([l≠[]],false)
 | .imm _ nn n _ _=>match nn with
   | true=>some ([],false)
   | false=>some ([n≠0],false)
 | .sl _ _ _ len c op=>some ([op=true->len≠0\/c≠0],false)
 | .empS | .ptr _ _ _ _ | .ip _ | .fn _ _ _ | .ifc _ _ | .map _=>some ([],false)
 | .bool _ | .int _ _ | .str _ | .agg _ | .tup _ | .yld _ | .may _ _ | .undef=>none
def kindS (d:TypeDesc) (x:SV):Bool:=
 match d with
 | .bool=>match x with
   | .bool _=>true
   | _=>false
 | .pointer _=>match x with
   | .nilP | .ptr _ _ _ _ | .ip _=>true
   | _=>false
 | .slice _=>match x with
   | .nilS | .empS | .bytes _ _ _ | .imm _ _ _ _ _ | .sl _ _ _ _ _ _=>true
   | _=>false
 | .func _ _ _=>match x with
   | .nilF | .fn _ _ _=>true
   | _=>false
 | .interface _=>match x with
   | .nilI | .ifc _ _=>true
   | _=>false
 | .map _ _=>match x with
   | .nilM=>true
   | _=>false
 | .string=>match x with
   | .str _=>true
   | _=>false
 | _=>false
def eqS (C:Cx) (t:TypeId) (cst:Bool) (x y:SV):Option (List Prop×Bool):=
 match C.und t with
 | none=>none
 | some d=>bif !(kindS d x&&kindS d y) then none else
 match x,y with
 | .bool a,.bool b=>some ([],a==b)
 | .nilS,y=>isNilS y
 | x,.nilS=>isNilS x
 | .nilP,y=>isNilS y
 | x,.nilP=>isNilS x
 | .nilF,y=>isNilS y
 | x,.nilF=>isNilS x
 | .nilM,y=>isNilS y
 | x,.nilM=>isNilS x
 | .nilI,.nilI=>bif cst then some ([],true) else none
 | .nilI,y=>isNilS y
 | x,.nilI=>isNilS x
 | _,_=>none
def binS (C:Cx) (op:BinOp) (t:TypeId) (cst:Bool) (x y:SV):VP:=
 match x,y with
 | .int k a,.int k' b=>bif isShift op||decide (k=k') then intS op k a b else none
 | .str a,.str b=>strS op a b
 | x,y=>match op with
   | .eql=>match eqS C t cst x y with
     | some (ps,b)=>some (ps,.bool b)
     | none=>none
   | .neq=>match eqS C t cst x y with
     | some (ps,b)=>some (ps,.bool (!b))
     | none=>none
   | _=>none
def unS (op:UnOp) (x:SV):VP:=
 match op,x with
 | .not,.bool b=>some ([],.bool (!b))
 | .neg,.int k n=>intS .sub k 0 n
 | .xor,.int k n=>intS .xor k (if k.signed then -1 else k.max) n
 | _,_=>none
def cutL (l:List UInt8) (off len:Nat):List UInt8:=(l.drop off).take len
def rdBytesS (σ:SS) (x:SV):Option (List Prop×List UInt8):=
 match x with
 | .bytes _ _ l=>some ([],l)
 | .str l=>some ([],l)
 | .nilS=>some ([],[])
 | .empS=>some ([],[])
 | .sl id sz off len _ _=>bif Nat.beq sz 1 then
    match σ.own.get id with
    | some ⟨_,.bytes l _⟩=>some ([off+len<=l.length],cutL l off len)
    | some ⟨_,.cells vs _⟩=>match takeN len (dropN off vs) with
      | some l=>bytesOfS l
      | none=>none
    | _=>none
   else none
 | _=>none
def elemF (sz off:Nat) (vs:List SV) (i:Nat):List SV:=(vs.drop ((off+i)*sz)).take sz
def rdArrS (σ:SS) (sz:Nat) (x:SV):Option (List Prop×Nat×(Nat->List SV)):=
 match x with
 | .imm _ _ n sz' f=>bif Nat.beq sz sz' then some ([],n,f) else none
 | .nilS=>some ([],0,fun _=>[])
 | .empS=>some ([],0,fun _=>[])
 | .sl id sz' off len _ _=>bif Nat.beq sz sz' then
    match σ.own.get id with
    | some ⟨_,.cells vs _⟩=>bif Nat.ble ((off+len)*sz) vs.length&&noOwnL vs then some ([],len,elemF sz off vs) else none
    | some ⟨_,.arr n sz'' f _⟩=>bif Nat.beq sz sz'' then some ([off+len<=n],len,fun i=>f (off+i)) else none
    | _=>none
   else none
 | _=>none
def lenS (x:SV):Option Nat:=
 match x with
 | .bytes _ _ l=>some l.length
 | .imm _ _ n _ _=>some n
 | .nilS | .empS=>some 0
 | .sl _ _ _ len _ _=>some len
 | .str l=>some l.length
 | _=>none
def convS (C:Cx) (σ:SS) (src dst:TypeId) (x:SV):VP:=
 match C.und src,C.und dst with
 | some sd,some dd=>
   match x with
   | .int _ n=>match dd with
     | .int k=>some ([],.int k (k.wrap n))
     | _=>none
   | .str l=>match dd with
     | .string=>some ([],.str l)
     | _=>none
   | x=>match sd,dd with
     | .slice e,.string=>bif isU8 C e then
        match rdBytesS σ x with
        | some (ps,l)=>some (ps,.str l)
        | none=>none
       else none
     | _,_=>none
 | _,_=>none
def boundS:Option SV->Nat->Option (List Prop×Nat)
 | none,d=>some ([],d)
 | some (.int _ n),_=>some ([0<=n],n.toNat)
 | _,_=>none
def optS (C:Cx) (e:SE) (g:Bool):Option Operand->Option (List Prop×Option SV)
 | none=>some ([],none)
 | some x=>match argS C e g x with
   | some (p,v)=>some (p,some v)
   | none=>none
def sliceS (C:Cx) (t:TypeId) (x:SV) (lo hi:Option SV):VP:=
 match x with
 | .str l=>match C.und t with
   | some .string=>match boundS lo 0,boundS hi l.length with
     | some (p,a),some (q,b)=>some (p++q++[b<=l.length,a<=b],.str (cutL l a (b-a)))
     | _,_=>none
   | _=>none
 | .bytes r nn l=>match C.und t with
   | some (.slice elem)=>bif isU8 C elem then
      match boundS lo 0,boundS hi l.length with
      | some (p,a),some (q,b)=>some (p++q++[b<=l.length,a<=b],.bytes r nn (cutL l a (b-a)))
      | _,_=>none
     else none
   | _=>none
 | .imm r nn n sz f=>match C.und t with
   | some (.slice elem)=>match C.size elem with
     | some sz'=>bif Nat.beq sz sz' then
        match boundS lo 0,boundS hi n with
        | some (p,a),some (q,b)=>some (p++q++[b<=n,a<=b],.imm r nn (b-a) sz (fun i=>f (a+i)))
        | _,_=>none
       else none
     | _=>none
   | _=>none
 | .nilS=>match C.und t with
   | some (.slice elem)=>match C.size elem with
     | some _=>match boundS lo 0,boundS hi 0 with
       | some (p,a),some (q,b)=>some (p++q++[b=0,a=0],.nilS)
       | _,_=>none
     | none=>none
   | _=>none
 | _=>none
def typeAssertS (C:Cx) (x:SV) (asserted:TypeId) (ok:Bool):Option SV:=
 match C.und asserted with
 | some d=>
   bif isIfaceD d then none else
   match x with
   | .ifc t v=>
     bif Nat.beq t asserted then some (bif ok then .tup [v,.bool true] else v)
     else bif ok then
      match C.zero asserted with
      | some z=>match ofV z with
        | some z=>some (.tup [z,.bool false])
        | none=>none
      | none=>none
     else none
   | .nilI=>bif ok then
      match C.zero asserted with
      | some z=>match ofV z with
        | some z=>some (.tup [z,.bool false])
        | none=>none
      | none=>none
     else none
   | _=>none
 | none=>none
def vp1 (o:Option SV):VP:=
 match o with
 | some v=>some ([],v)
 | none=>none
def withP (p:List Prop) (o:VP):VP:=
 match o with
 | some (q,v)=>some (p++q,v)
 | none=>none
def pickS (g c:Bool) (a b:SV):VP:=
 match a,b with
 | .bool x,.bool y=>some ([],.bool (bif c then x else y))
 | .may g' (.bool x),.bool y=>some ([g=true->c=true->g'=true],.bool (bif c then x else y))
 | .bool x,.may g' (.bool y)=>some ([g=true->c=false->g'=true],.bool (bif c then x else y))
 | .may g1 (.bool x),.may g2 (.bool y)=>some ([g=true->c=true->g1=true,g=true->c=false->g2=true],.bool (bif c then x else y))
 | _,_=>none
def valS (C:Cx) (e:SE) (g:Bool) (σ:SS):Op->VP
 | .move x | .assign x=>argS C e g x
 | .pick c a b=>match argS C e g c,e.eval C a,e.eval C b with
   | some (p,.bool c),some a,some b=>withP p (pickS g c a b)
   | _,_,_=>none
 | .build t parts=>match partsS C e g parts.toList with
   | some (p,ps)=>withP p (vp1 (buildS C t ps))
   | none=>none
 | .load t a=>match argS C e g a with
   | some (p,a)=>withP p (loadS C σ t a)
   | none=>none
 | .nilCheck x=>match argS C e g x with
   | some (p,.ptr id sz i j)=>some (p,.ptr id sz i j)
   | some (p,.ip l)=>some (p,.ip l)
   | some (p,.fn f a c)=>some (p,.fn f a c)
   | some (p,.ifc t v)=>some (p,.ifc t v)
   | _=>none
 | .binOp op t x y _=>match argS C e g x,argS C e g y with
   | some (p,a),some (q,b)=>withP (p++q) (binS C op t (isCst x||isCst y) a b)
   | _,_=>none
 | .unOp op _ x=>match argS C e g x with
   | some (p,a)=>withP p (unS op a)
   | none=>none
 | .convert src dst x=>match argS C e g x with
   | some (p,a)=>withP p (convS C σ src dst a)
   | none=>none
 | .makeInterface t x=>match argS C e g x,C.und t with
   | some _,some (.interface _)=>none
   | some (p,a),some _=>some (p,.ifc t a)
   | _,_=>none
 | .makeFunc (.func f) first captured=>match argsS C e g first.toList,argsS C e g captured.toList with
   | some (p,a),some (q,c)=>some (p++q,.fn f a c)
   | _,_=>none
 | .slice t x lo hi none=>match argS C e g x,optS C e g lo,optS C e g hi with
   | some (p,x),some (q,lo),some (r,hi)=>withP (p++q++r) (sliceS C t x lo hi)
   | _,_,_=>none
 | .fieldAddr t x f=>match argS C e g x with
   | some (p,x)=>withP p (vp1 (fieldAddrS C t x f))
   | none=>none
 | .field t x f=>match argS C e g x with
   | some (p,x)=>withP p (vp1 (fieldS C t x f))
   | none=>none
 | .indexAddr t x i=>match argS C e g x,argS C e g i with
   | some (p,x),some (q,i)=>withP (p++q) (indexAddrS C t x i)
   | _,_=>none
 | .index t x i=>match argS C e g x,argS C e g i with
   | some (p,x),some (q,i)=>withP (p++q) (indexS C t x i)
   | _,_=>none
 | .typeAssert x _ asserted ok=>match argS C e g x with
   | some (p,x)=>withP p (vp1 (typeAssertS C x asserted ok))
   | none=>none
 | .extract t i=>match argS C e g t with
   | some (p,.tup vs)=>withP p (vp1 (nth vs i))
   | _=>none
 | .call ⟨.builtin .len,args,ts⟩=>match args.toList,ts.toList with
   | [x],[t]=>match argS C e g x,C.und t with
     | some (p,x),some d=>match lenS x with
       | some n=>bif kindS d x then some (p,.int .i64 n) else none
       | none=>none
     | _,_=>none
   | _,_=>none
 | .call ⟨.builtin .min,args,ts⟩=>match args.toList with
   | [x,y]=>match argS C e g x,argS C e g y with
     | some (p,.int k a),some (q,.int k' b)=>bif decide (k=k') then some (p++q,.int k (bif decide (b<a) then b else a)) else none
     | _,_=>none
   | _=>none
 | _=>none
structure SK where
 val:SV->SS->Prop
 enter:FuncId->List SV->SS->Prop
 pan:SV->SS->Prop
 dfr:SDef->Prop
 recover:Prop
def strS' (m:String):List UInt8:=m.toUTF8.data.toList
def nilDerefS (C:Cx):SV:= .ifc C.rt.errorString (.str (strS' "invalid memory address or nil pointer dereference"))
def cellsZeroS (z:List SV):Nat->List SV
 | 0=>[]
 | n+1=>z++cellsZeroS z n
def appF (n:Nat) (f0 f1:Nat->List SV) (i:Nat):List SV:=bif Nat.blt i n then f0 i else f1 (i-n)
def big:Nat:=1099511627776
def eqNB (a b:Nat):Bool:=decide (a=b)
def leNB (a b:Nat):Bool:=decide (a<=b)
def ltNB (a b:Nat):Bool:=decide (a<b)
def appBytesW (σ:SS) (elem:TypeId) (dst:SV) (ys:List UInt8) (K:SK):Prop:=
 match dst with
 | .nilS=>ys.length<big/\K.val (.sl σ.next 1 0 ys.length ys.length true) (σ.new (.bytes ys elem))
 | .sl id sz off len c op=>
   bif !Nat.beq sz 1 then False else
   match rdBytesS σ dst with
   | some (ps,xs)=>allP ps
     (ask op ((c=len/\match σ.own.get id with
       | some ⟨_,.bytes l t⟩=>off=0/\len=l.length/\t=elem
       | _=>False)/\len+ys.length<big/\K.val (.sl σ.next 1 0 (len+ys.length) (len+ys.length) true) ((σ.drop id).new (.bytes (xs++ys) elem)))
       (ask (leNB (len+ys.length) c)
         (match σ.own.get id with
         | some ⟨_,.bytes l t⟩=>off+len+ys.length<=l.length/\K.val (.sl id 1 off (len+ys.length) c false) (σ.upd id (.bytes (l.take (off+len)++(ys++l.drop (off+len+ys.length))) t))
         | _=>False)
         (len+ys.length<big/\K.val (.sl σ.next 1 0 (len+ys.length) (len+ys.length) true) (σ.new (.bytes (xs++ys) elem)))))
   | none=>False
 | _=>False
def appArrW (C:Cx) (σ:SS) (elem:TypeId) (sz bytes:Nat) (dst:SV) (n:Nat) (g:Nat->List SV) (K:SK):Prop:=
 match dst with
 | .nilS=>n*bytes<big/\K.val (.sl σ.next sz 0 n n true) (σ.new (.arr n sz g elem))
 | .sl id sz' off len c op=>
   match rdArrS σ sz dst with
   | some (ps,_,f)=>allP ps
     (ask op ((c=len/\match σ.own.get id with
       | some ⟨_,.arr m _ _ t⟩=>off=0/\len=m/\t=elem
       | _=>False)/\(len+n)*bytes<big/\K.val (.sl σ.next sz 0 (len+n) (len+n) true) ((σ.drop id).new (.arr (len+n) sz (appF len f g) elem)))
       (ask (leNB (len+n) c)
         (match σ.own.get id with
         | some ⟨_,.arr m sz'' h t⟩=>off+len+n<=m/\K.val (.sl id sz off (len+n) c false)
            (σ.upd id (.arr m sz'' (fun i=>bif Nat.blt i (off+len) then h i else bif Nat.blt i (off+len+n) then g (i- (off+len)) else h i) t))
         | _=>False)
         ((len+n)*bytes<big/\K.val (.sl σ.next sz 0 (len+n) (len+n) true) (σ.new (.arr (len+n) sz (appF len f g) elem)))))
   | none=>False
 | _=>False
def appendW (C:Cx) (σ:SS) (st xt:TypeId) (dst x:SV) (K:SK):Prop:=
 match C.und st,C.und xt with
 | some (.slice elem),some xd=>
   bif isIntD xd then False else
   match C.info elem with
   | none=>False
   | some ei=>bif !ei.zero.isSome then False else
   bif isU8 C elem then
    match rdBytesS σ x with
    | some (ps,ys)=>allP ps (bif Nat.beq ei.bytes 1 then appBytesW σ elem dst ys K else False)
    | none=>False
   else match rdArrS σ ei.size x with
    | some (ps,n,g)=>allP ps (bif Nat.blt 0 ei.bytes&&Nat.blt ei.bytes 1048576 then appArrW C σ elem ei.size ei.bytes dst n g K else False)
    | none=>False
 | _,_=>False
def sliceW (σ:SS) (id sz off len c:Nat) (op:Bool) (lo hi:Option SV) (K:SK):Prop:=
 match boundS lo 0,boundS hi len with
 | some (p,a),some (q,b)=>allP (p++q++[b<=c,a<=b])
    (ask (eqNB a 0) (K.val (.sl id sz off b c op) σ) (ask (ltNB a c) (K.val (.sl id sz (off+a) (b-a) (c-a) op) σ) (match op with
      | true=>K.val .empS σ
      | false=>K.val (.sl id sz off 0 0 false) σ)))
 | _,_=>False
def slice3W (σ:SS) (id sz off c:Nat) (op:Bool) (lo hi:Option SV) (mx:SV) (K:SK):Prop:=
 match boundS lo 0,boundS hi 0,boundS (some mx) 0 with
 | some (p,a),some (q,b),some (r,m)=>allP (p++q++r++[m<=c,b<=m,a<=b,op=true->0<c])
    (ask (eqNB a 0) (K.val (.sl id sz off b m false) σ) (ask (eqNB m a) (K.val (.sl id sz off 0 0 false) σ) (K.val (.sl id sz (off+a) (b-a) (m-a) false) σ)))
 | _,_,_=>False
def sliceB (C:Cx) (n:Nat) (l:List SV) (elem:TypeId):SB:=match l with
 | []=>bif isU8 C elem then .bytes [] elem else .arr 0 n (fun _=>[]) elem
 | l=> .cells l elem
def frzV (σ:SS) (v:SV):List Prop×SV×SS:=
 match v with
 | .sl id sz off len c op=>match σ.own.get id with
   | some ⟨_,.bytes b _⟩=>bif Nat.beq sz 1 then ([off+len<=b.length],.bytes 1 false (cutL b off len),σ.drop id) else ([],v,σ)
   | some ⟨_,.arr m sz' f _⟩=>bif Nat.beq sz sz' then ([off+len<=m],.imm 1 false len sz (fun i=>f (off+i)),σ.drop id) else ([],v,σ)
   | _=>([],v,σ)
 | _=>([],v,σ)
def frzL (σ:SS):List SV->List Prop×List SV×SS
 | []=>([],[],σ)
 | v::r=>match frzV σ v with
   | (p,v',σ1)=>match frzL σ1 r with
     | (q,r',σ2)=>(p++q,v'::r',σ2)
def isZ8 (z:List SV):Bool:=match z with
 | [.int .u8 (.ofNat n)]=>Nat.beq n 0
 | _=>false
def makeSliceW (C:Cx) (σ:SS) (t:TypeId) (l c:SV) (K:SK):Prop:=
 match C.und t,l,c with
 | some (.slice elem),.int _ l,.int _ c=>
   match C.info elem,zeroS C elem with
   | some ei,some z=>(oneL z&&(Nat.beq z.length ei.size&&noOwnL z))=true/\0<=l/\l<=c/\ei.bytes*c.toNat<=big/\c.toNat<=big/\
      K.val (.sl σ.next ei.size 0 l.toNat c.toNat false) (σ.new (bif isU8 C elem&&isZ8 z then .bytes (List.replicate c.toNat 0) elem else .arr c.toNat ei.size (fun _=>z) elem))
   | _,_=>False
 | _,_,_=>False
def callW (f:SV) (args:List SV) (C:Cx) (σ:SS) (K:SK):Prop:=
 match f with
 | .fn f first captured=>K.enter f (first++args++captured) σ
 | .nilF=>K.pan (nilDerefS C) σ
 | _=>False
def opW (C:Cx) (e:SE) (o:Oper) (σ:SS) (K:SK):Prop:=
 match valS C e true σ o.op with
 | some (ps,v)=>allP ps (K.val v σ)
 | none=>
   match o.op with
   | .pick c a b=>match argS C e true c,argS C e true a,argS C e true b with
     | some (p,.bool c),some (q,a),some (r,b)=>allP p (ask c (allP q (K.val a σ)) (allP r (K.val b σ)))
     | _,_,_=>False
   | .alloc t=>match zeroS C t with
     | some z=>bif oneL z then K.val (.ptr σ.next 0 0 0) (σ.new (.cells z t)) else False
     | none=>False
   | .box t x=>match argS C e true x,C.size t with
     | some (p,v),some _=>match cellsS v with
       | some cs=>bif oneL cs then allP p (K.val (.ptr σ.next 0 0 0) (σ.new (.cells cs t))) else False
       | none=>False
     | _,_=>False
   | .buildSlice t len parts=>match partsS C e true parts.toList,C.und t with
     | some (p,ps),some (.slice elem)=>match C.size elem,zeroS C elem with
       | some n,some z=>match fillS (fun i=>some (i*n,n)) ps (cellsZeroS z len) with
         | some l=>bif Nat.ble (len*n) 16777216&&oneL l then match frzL σ l with
            | (q,l,σ)=>allP (p++q) (K.val (.sl σ.next n 0 len len false) (σ.new (sliceB C n l elem)))
           else False
         | none=>False
       | _,_=>False
     | _,_=>False
   | .store t a x=>match argS C e true a,argS C e true x with
     | some (p,a),some (q,v)=>match storeS C σ t a v with
       | some (r,σ')=>allP (p++q++r) (K.val .undef σ')
       | none=>False
     | _,_=>False
   | .nilCheck x=>match argS C e true x with
     | some (p,.nilP) | some (p,.nilI) | some (p,.nilF)=>allP p (K.pan (nilDerefS C) σ)
     | _=>False
   | .convert src dst x=>match argS C e true x,C.und src,C.und dst with
     | some (p,.str l),some _,some (.slice el)=>bif isU8 C el then
        allP p (l.length<big/\K.val (.sl σ.next 1 0 l.length l.length true) (σ.new (.bytes l el))) else False
     | _,_,_=>False
   | .makeSlice t l c=>match argS C e true l,argS C e true c with
     | some (p,l),some (q,c)=>allP (p++q) (makeSliceW C σ t l c K)
     | _,_=>False
   | .slice t x lo hi mx=>match argS C e true x,optS C e true lo,optS C e true hi,optS C e true mx with
     | some (p,.sl id sz off len c op),some (q,lo),some (r,hi),some (w,mx)=>match C.und t with
       | some (.slice elem)=>match C.size elem with
         | some n=>bif Nat.beq n sz then allP (p++q++r++w) (match mx with
            | none=>sliceW σ id sz off len c op lo hi K
            | some mx=>bif hi.isSome then slice3W σ id sz off c op lo hi mx K else False) else False
         | none=>False
       | _=>False
     | _,_,_,_=>False
   | .call c=>match argsS C e true c.args.toList with
     | none=>False
     | some (p,args)=>match c.callee with
       | .builtin .append=>match c.argTypes.toList,args with
         | [st,xt],[dst,x]=>allP p (appendW C σ st xt dst x K)
         | _,_=>False
       | .builtin .recover=>allP p K.recover
       | .builtin _=>False
       | .invoke _ _=>False
       | .value f=>match argS C e true f with
         | some (q,f)=>allP (p++q) (callW f args C σ K)
         | none=>False
   | .defer c=>match argsS C e true c.args.toList with
     | none=>False
     | some (p,args)=>match c.callee with
       | .value f=>match argS C e true f with
         | some (q,.fn f first captured)=>allP (p++q) (K.dfr ⟨f,captured,first++args⟩)
         | _=>False
       | _=>False
   | .panic x=>match argS C e true x with
     | some (p,.ifc t v)=>allP p (K.pan (.ifc t v) σ)
     | _=>False
   | _=>False
structure PSpec where
 X:Type
 cond:X->List SV->SS->Prop
 val:X->SV
structure SRec where
 call:Bool->FuncId->List SV->SMode->SS->(SV->SMode->SS->Prop)->(SChain->SMode->SS->Prop)->Prop
 pure:FuncId->Option PSpec:=fun _=>none
structure SCf where
 fn:FuncId
 dfr:Bool
def recS (cf:SCf) (u:SMode):SV×SMode:=
 bif cf.dfr then
  match u with
  | .panicking ((v,false)::older)=>(v,.panicking ((v,true)::older))
  | _=>(.nilI,u)
 else (.nilI,u)
def guardS (ops:List Oper) (e:SE) (o:Oper):Option (Option (Tmp×Bool×SV×SV)):=
 match o.guard with
 | none=>some none
 | some (j,want)=>match nth ops j with
   | some oj=>match oj.dst with
     | some d=>match e.tmps.get d with
       | some (.bool b)=>some (some (d,bif want then b else !b,.bool want,.bool (!want)))
       | some (.may g' (.bool b))=>some (some (d,(bif want then b else !b)&&g',.bool want,.may g' (.bool (!want))))
       | _=>none
     | none=>none
   | none=>none
abbrev SKont:=SX->SE->SMode->SS->Prop
def putW (e:SE) (d:Option Tmp) (v:SV) (u:SMode) (σ:SS) (k:SKont):Prop:=
 match e.put d v with
 | some e=>k .normal e u σ
 | none=>False
def bindS (o:Oper) (v:SV) (k:SV->Prop):Prop:=
 match o.op with
 | .move _=>match v with
   | .bool b=>∀q:Bool,q=b->k (.bool q)
   | .may g (.bool b)=>∀q:Bool,q=b->k (.may g (.bool q))
   | _=>k v
 | .binOp _ _ (.tmp _) (.tmp _) _=>match v with
   | .int t x=>∀q:Int,q=x->k (.int t q)
   | .may g (.int t x)=>∀q:Int,q=x->k (.may g (.int t q))
   | _=>k v
 | _=>k v
theorem bindS_get {o:Oper} {v:SV} {k:SV->Prop} (h:bindS o v k):k v:=by
 unfold bindS at h
 split at h
 · split at h
   · exact h _ rfl
   · exact h _ rfl
   · exact h
 · split at h
   · exact h _ rfl
   · exact h _ rfl
   · exact h
 · exact h
def stepW' (C:Cx) (rec:SRec) (cf:SCf) (o:Oper) (e:SE) (u:SMode) (σ:SS) (k:SKont):Prop:=
 opW C e o σ {
  val:=fun v σ=>bindS o v fun v=>putW e o.dst v u σ k
  enter:=fun f args σ=>rec.call false f args .run σ (fun v _ σ=>putW e o.dst v u σ k) (fun ch _ σ=>k (.panic ch) e u σ)
  pan:=fun v σ=>k (.panic [(v,false)]) e u σ
  dfr:=fun d=>match e.put o.dst .undef with
   | some e=>k .normal {e with defers:=d::e.defers} u σ
   | none=>False
  recover:=match recS cf u with
   | (v,u)=>putW e o.dst v u σ k}
def stepW (C:Cx) (rec:SRec) (cf:SCf) (ops:List Oper) (o:Oper) (e:SE) (u:SMode) (σ:SS) (k:SKont):Prop:=
 match guardS ops e o with
 | none=>False
 | some none=>stepW' C rec cf o e u σ k
 | some (some (d,g,vt,vf))=>
   match valS C e g σ o.op with
   | some (ps,v)=>allP (ps.map (g=true->·)) (bindS o (.may g v) fun v=>putW e o.dst v u σ k)
   | none=>ask g (stepW' C rec cf o {e with tmps:=e.tmps.set d vt} u σ k) (putW {e with tmps:=e.tmps.set d vf} o.dst .undef u σ k)
def opsW (C:Cx) (rec:SRec) (cf:SCf) (ops:List Oper):List Oper->SE->SMode->SS->SKont->Prop
 | [],e,u,σ,k=>k .normal e u σ
 | o::r,e,u,σ,k=>stepW C rec cf ops o e u σ (fun x e u σ=>match x with
   | .normal=>opsW C rec cf ops r e u σ k
   | x=>k x e u σ)
end Go.Eng
namespace Go.Eng
abbrev Ren:=List (Nat×Option Nat)
def renGet:Ren->Nat->Option (Option Nat)
 | [],_=>none
 | (a,b)::r,n=>bif Nat.beq a n then some b else renGet r n
def renHas:Ren->Nat->Bool
 | [],_=>false
 | (_,some b)::r,n=>Nat.beq b n||renHas r n
 | (_,none)::r,n=>renHas r n
abbrev EntK:=Ren->List Nat->Prop
def bindW (a:Nat) (b:Option Nat) (ρ:Ren) (fr:List Nat) (k:EntK):Prop:=
 match renGet ρ a with
 | some b'=>b'=b/\k ρ fr
 | none=>match b with
   | some n=>bif renHas ρ n||memN n fr then False else k ((a,b)::ρ) fr
   | none=>k ((a,b)::ρ) fr
def frzW (n:Nat) (ρ:Ren) (fr:List Nat) (k:EntK):Prop:=
 bif renHas ρ n then False else k ρ (n::fr)
def flatF (f:Nat->List SV):Nat->Nat->List SV
 | 0,_=>[]
 | n+1,i=>f i++flatF f n (i+1)
def lenF (f:Nat->List SV) (sz:Nat):Nat->Nat->Bool
 | 0,_=>true
 | n+1,i=>Nat.beq (f i).length sz&&lenF f sz n (i+1)
def leR (r r':Nat):Bool:=Nat.beq r 0|| !Nat.beq r' 0
def okR (bor:Bool) (r:Nat):Bool:= !bor||Nat.beq r 0
mutual
def leV (a b:SV):Prop:=match a with
 | .int k x=>match b with
   | .int k' y=>k=k'/\x=y
   | _=>False
 | .bool x=>match b with
   | .bool y=>x=y
   | _=>False
 | .str x=>match b with
   | .str y=>x=y
   | _=>False
 | .bytes r nn l=>match b with
   | .bytes r' nn' l'=>leR r r'=true/\(nn=true->nn'=true)/\l=l'
   | .nilS=>nn=false/\l=[]
   | _=>False
 | .imm r nn n sz f=>match b with
   | .imm r' nn' n' sz' f'=>leR r r'=true/\(nn=true->nn'=true)/\n=n'/\sz=sz'/\∀i,i<n->leL (f i) (f' i)
   | .nilS=>nn=false/\n=0
   | _=>False
 | .ifc t v=>match b with
   | .ifc t' v'=>t=t'/\leV v v'
   | _=>False
 | .nilS=>match b with
   | .nilS=>True
   | _=>False
 | .nilP=>match b with
   | .nilP=>True
   | _=>False
 | .nilF=>match b with
   | .nilF=>True
   | _=>False
 | .nilI=>match b with
   | .nilI=>True
   | _=>False
 | .nilM=>match b with
   | .nilM=>True
   | _=>False
 | _=>False
def leL (a b:List SV):Prop:=match a with
 | []=>match b with
   | []=>True
   | _=>False
 | a::x=>match b with
   | b::y=>leV a b/\leL x y
   | _=>False
end
mutual
def entV (σ:SS) (bor:Bool):Nat->SV->SV->Ren->List Nat->EntK->Prop
 | 0,_,_,_,_,_=>False
 | n+1,a,b,ρ,fr,k=>match a with
   | .undef=>k ρ fr
   | .bool x=>match b with
     | .bool y=>x=y/\k ρ fr
     | _=>False
   | .int t x=>match b with
     | .int t' y=>bif decide (t=t') then x=y/\k ρ fr else False
     | _=>False
   | .str x=>match b with
     | .str y=>x=y/\k ρ fr
     | _=>False
   | .bytes r nn l=>match b with
     | .bytes r' nn' l'=>bif leR r r' then (nn=true->nn'=true)/\l=l'/\k ρ fr else False
     | .nilS=>nn=false/\l=[]/\k ρ fr
     | .empS=>bif Nat.beq r 0 then l=[]/\k ρ fr else False
     | .sl id _ _ len c op=>match rdBytesS σ b with
       | some (ps,l')=>bif okR bor r then (nn=true->op=true->len≠0\/c≠0)/\allP ps (l=l'/\frzW id ρ fr k) else False
       | none=>False
     | _=>False
   | .imm r nn m sz f=>match b with
     | .imm r' nn' m' sz' f'=>bif leR r r'&&Nat.beq sz sz' then (nn=true->nn'=true)/\m=m'/\(∀i,i<m->leL (f i) (f' i))/\k ρ fr else False
     | .nilS=>nn=false/\m=0/\k ρ fr
     | .empS=>bif Nat.beq r 0 then m=0/\k ρ fr else False
     | .sl id sz' off len c op=>bif okR bor r&&Nat.beq sz sz' then
        match σ.own.get id with
        | some ⟨_,.cells vs _⟩=>bif lenF f sz len 0&&noOwnL (flatF f len 0) then
           (nn=true->op=true->len≠0\/c≠0)/\m=len/\(match takeN (len*sz) (dropN (off*sz) vs) with
             | some l=>entL σ bor n (flatF f len 0) l ρ fr (fun ρ fr=>frzW id ρ fr k)
             | none=>False)
          else False
        | some ⟨_,.arr m' sz'' f' _⟩=>bif Nat.beq sz sz'' then (nn=true->op=true->len≠0\/c≠0)/\m=len/\off+len<=m'/\(∀i,i<m->leL (f i) (f' (off+i)))/\frzW id ρ fr k else False
        | _=>False
       else False
     | _=>False
   | .nilS=>match b with
     | .nilS=>k ρ fr
     | _=>False
   | .sl id sz off len c op=>match b with
     | .sl id' sz' off' len' c' op'=>bif Nat.beq sz sz' then off=off'/\len=len'/\c=c'/\op=op'/\bindW id (some id') ρ fr k else False
     | .nilS=>len=0/\c=0/\op=true/\bindW id none ρ fr k
     | _=>False
   | .ptr id sz i j=>match b with
     | .ptr id' sz' i' j'=>i=i'/\sz=sz'/\j=j'/\bindW id (some id') ρ fr k
     | _=>False
   | .ip l=>match b with
     | .ip l'=>l=l'/\k ρ fr
     | _=>False
   | .nilP=>match b with
     | .nilP=>k ρ fr
     | _=>False
   | .agg l=>match b with
     | .agg l'=>entL σ bor n l l' ρ fr k
     | _=>False
   | .tup l=>match b with
     | .tup l'=>entL σ bor n l l' ρ fr k
     | _=>False
   | .fn f x y=>match b with
     | .fn f' x' y'=>bif Nat.beq f f' then entL σ bor n x x' ρ fr (fun ρ fr=>entL σ bor n y y' ρ fr k) else False
     | _=>False
   | .nilF=>match b with
     | .nilF=>k ρ fr
     | _=>False
   | .ifc t v=>match b with
     | .ifc t' v'=>bif Nat.beq t t' then entV σ bor n v v' ρ fr k else False
     | _=>False
   | .nilI=>match b with
     | .nilI=>k ρ fr
     | _=>False
   | .nilM=>match b with
     | .nilM=>k ρ fr
     | _=>False
   | _=>False
def entL (σ:SS) (bor:Bool):Nat->List SV->List SV->Ren->List Nat->EntK->Prop
 | 0,_,_,_,_,_=>False
 | n+1,a,b,ρ,fr,k=>match a with
   | []=>match b with
     | []=>k ρ fr
     | _=>False
   | a::x=>match b with
     | b::y=>entV σ bor n a b ρ fr (fun ρ fr=>entL σ bor n x y ρ fr k)
     | _=>False
end
def entF:Nat:=200
def entB (σ:SS) (bor:Bool) (a b:SB) (ρ:Ren) (fr:List Nat) (k:EntK):Prop:=
 match a,b with
 | .cells x t,.cells y t'=>bif Nat.beq t t' then entL σ bor entF x y ρ fr k else False
 | .bytes l t,.bytes l' t'=>bif Nat.beq t t' then l=l'/\k ρ fr else False
 | .bytes l t,.cells y t'=>bif Nat.beq t t' then
    match bytesOfS y with
    | some (ps,l')=>allP ps (l=l'/\k ρ fr)
    | none=>False
   else False
 | .arr m sz f t,.arr m' sz' f' t'=>bif Nat.beq t t'&&Nat.beq sz sz' then m=m'/\(∀i,i<m->leL (f i) (f' i))/\k ρ fr else False
 | _,_=>False
def entO (σ:SS) (bor:Bool):List (Nat×SB)->Ren->List Nat->EntK->Prop
 | [],ρ,fr,k=>k ρ fr
 | (l,b)::r,ρ,fr,k=>match renGet ρ l with
   | some (some l')=>match σ.own.get l' with
     | some o=>entB σ bor b o.b ρ fr (fun ρ fr=>entO σ bor r ρ fr k)
     | none=>False
   | some none=>match b with
     | .bytes x _=>x=[]/\entO σ bor r ρ fr k
     | .arr n _ _ _=>n=0/\entO σ bor r ρ fr k
     | _=>False
   | none=>False
def entT (σ:SS) (e:SE):List (Nat×SV)->Ren->List Nat->EntK->Prop
 | [],ρ,fr,k=>k ρ fr
 | (t,v)::r,ρ,fr,k=>match e.tmps.get t with
   | some b=>entV σ false entF v b ρ fr (fun ρ fr=>entT σ e r ρ fr k)
   | none=>False
structure Cut where
 X:Type
 pre:X->Prop
 tm:X->List (Nat×SV)
 own:X->List (Nat×SB)
 mu:X->Nat
 R:Type:=Unit
 rel:Option (R->X->Prop):=none
def Cut.at (c:Cut) (rel:c.R->c.X->Prop) (r:c.R):Cut:={X:=c.X,pre:=fun x=>c.pre x/\rel r x,tm:=c.tm,own:=c.own,mu:=c.mu}
def topN:List (Nat×SB)->Nat->Nat
 | [],n=>n
 | (l,_)::r,n=>bif Nat.ble n l then topN r (l+1) else topN r n
def setsO:List (Nat×SB)->T SO->T SO
 | [],t=>t
 | (l,b)::r,t=>setsO r (t.set l ⟨l,b⟩)
def setsT:List (Nat×SV)->T SV->T SV
 | [],t=>t
 | (l,b)::r,t=>setsT r (t.set l b)
def SS.ofList (l:List (Nat×SB)):SS:=⟨setsO l .nil,topN l 0⟩
def SE.ofList (n:Nat) (l:List (Nat×SV)):SE:=⟨setsT l .nil,n,[]⟩
def sameRen (l:List Nat):Ren:=l.map fun i=>(i,some i)
def renLt:Ren->Nat->Bool
 | [],_=>true
 | (l,_)::r,n=>Nat.blt l n&&renLt r n
def tgtLt:Ren->Nat->Bool
 | [],_=>true
 | (_,some t)::r,n=>Nat.blt t n&&tgtLt r n
 | (_,none)::r,n=>tgtLt r n
def renIn:Ren->List Nat->Bool
 | [],_=>true
 | (l,_)::r,L=>memN l L&&renIn r L
def entCut (base:List Nat) (c:Cut) (x:c.X) (e:SE) (σ:SS):Prop:=
 entT σ e (c.tm x) (sameRen base) [] fun ρ fr=>entO σ false (c.own x) ρ fr fun ρ _=>bif renLt ρ (SS.ofList (c.own x)).next then True else False
mutual
def renV (ρ:Ren):SV->SV
 | .sl id sz off len c op=>match renGet ρ id with
   | some (some id')=> .sl id' sz off len c op
   | _=> .undef
 | .ptr id sz i j=>match renGet ρ id with
   | some (some id')=> .ptr id' sz i j
   | _=> .undef
 | .agg l=> .agg (renL ρ l)
 | .tup l=> .tup (renL ρ l)
 | .fn f a c=> .fn f (renL ρ a) (renL ρ c)
 | .ifc t v=> .ifc t (renV ρ v)
 | .yld _=> .undef
 | .map _=> .undef
 | .may _ _=> .undef
 | v=>v
def renL (ρ:Ren):List SV->List SV
 | []=>[]
 | v::r=>renV ρ v::renL ρ r
end
def renB (ρ:Ren):SB->SB
 | .cells vs t=> .cells (renL ρ vs) t
 | b=>b
inductive SOut where
 | ret (v:SV) (own:List (Nat×SB))
 | pan (v:SV) (own:List (Nat×SB))
 | ask (b:Bool) (t f:SOut)
 | ex (X:Type) (P:X->Prop) (f:X->SOut)
structure FSpec where
 X:Type
 pre:X->Prop
 args:X->List SV
 base:List Nat
 own:X->List (Nat×SB)
 out:X->SOut
 pv:Option {w:X->SV // base=[]/\∀x,own x=[]/\out x= .ret (w x) []}:=none
mutual
def noBor:SV->Prop
 | .bytes r _ _=>r≠0
 | .imm r _ n _ f=>r≠0/\∀i,i<n->noBorL (f i)
 | .ip _=>False
 | .empS=>False
 | .agg l=>noBorL l
 | .tup l=>noBorL l
 | .fn _ a c=>noBorL a/\noBorL c
 | .ifc _ v=>noBor v
 | .may _ _=>False
 | _=>True
def noBorL:List SV->Prop
 | []=>True
 | v::r=>noBor v/\noBorL r
end
def noBorB:SB->Prop
 | .cells vs _=>noBorL vs
 | .bytes _ _=>True
 | .arr n _ f _=>∀i,i<n->noBorL (f i)
def noBorO:List (Nat×SB)->Prop
 | []=>True
 | (_,b)::r=>noBorB b/\noBorO r
def newIds:List (Nat×SB)->Ren->Nat->Ren×Nat
 | [],ρ,n=>(ρ,n)
 | (l,_)::r,ρ,n=>match renGet ρ l with
   | some (some _)=>newIds r ρ n
   | _=>newIds r ((l,some n)::ρ) (n+1)
def putOwn (ρ:Ren):List (Nat×SB)->T SO->Nat->T SO×Nat
 | [],t,n=>(t,n)
 | (l,b)::r,t,n=>match renGet ρ l with
   | some (some l')=>putOwn ρ r (t.set l' ⟨n,renB ρ b⟩) (n+1)
   | _=>putOwn ρ r t n
def dropOwn:Ren->T SO->T SO
 | [],t=>t
 | (_,some l')::r,t=>dropOwn r (t.del l')
 | (_,none)::r,t=>dropOwn r t
def behind (σ:SS) (ρ:Ren) (own:List (Nat×SB)):Ren×SS:=
 let p:=newIds own ρ σ.next
 let q:=putOwn p.1 own (dropOwn ρ σ.own) p.2
 (p.1,⟨q.1,q.2⟩)
def outW (σ:SS) (ρ:Ren) (fr:List Nat) (kr kp:SV->SS->Prop):SOut->Prop
 | .ask b t f=>ask b (outW σ ρ fr kr kp t) (outW σ ρ fr kr kp f)
 | .ex X P f=>∀x:X,P x->outW σ ρ fr kr kp (f x)
 | .ret v own=>(match fr with
   | []=>True
   | _=>noBor v/\noBorO own)/\match behind σ ρ own with
     | (ρ,σ)=>kr (renV ρ v) σ
 | .pan v own=>(match fr with
   | []=>True
   | _=>noBor v/\noBorO own)/\match behind σ ρ own with
     | (ρ,σ)=>kp (renV ρ v) σ
def specW (S:FSpec) (args:List SV) (σ:SS) (kr kp:SV->SS->Prop):Prop:=
 ∃x,S.pre x/\entL σ true entF (S.args x) args [] [] fun ρ fr=>entO σ true (S.own x) ρ fr fun ρ fr=>
  bif renIn ρ S.base&&(renLt ρ (SS.ofList (S.own x)).next&&tgtLt ρ σ.next) then outW σ ρ fr kr kp (S.out x) else False
def endW (base:List Nat) (v:SV) (σ:SS):SOut->Prop
 | .ask b t f=>ask b (endW base v σ t) (endW base v σ f)
 | .ex X P f=>∃x:X,P x/\endW base v σ (f x)
 | .ret w own=>entV σ false entF w v (sameRen base) [] fun ρ fr=>entO σ false own ρ fr fun ρ _=>bif renLt ρ (SS.ofList own).next then True else False
 | .pan _ _=>False
def endP (base:List Nat) (v:SV) (σ:SS):SOut->Prop
 | .ask b t f=>ask b (endP base v σ t) (endP base v σ f)
 | .ex X P f=>∃x:X,P x/\endP base v σ (f x)
 | .pan w own=>entV σ false entF w v (sameRen base) [] fun ρ fr=>entO σ false own ρ fr fun ρ _=>bif renLt ρ (SS.ofList own).next then True else False
 | .ret _ _=>False
def iterW (body:SE->SMode->SS->SKont->Prop):Nat->SE->SMode->SS->SKont->Prop
 | 0,_,_,_,_=>False
 | n+1,e,u,σ,k=>body e u σ fun x e u σ=>match x with
   | .normal=>iterW body n e u σ k
   | x=>k x e u σ
def inBlockW (id:Nat) (k:SKont):SKont:=fun x e u σ=>match x with
 | .exit j=>bif Nat.beq j id then k .normal e u σ else k (.exit j) e u σ
 | x=>k x e u σ
def noPan:SMode->Prop
 | .panicking _=>False
 | _=>True
def eqM:SMode->SMode->Prop
 | .run,.run=>True
 | .returning,.returning=>True
 | _,_=>False
def cutLoopW (base:List Nat) (c:Cut) (n:Nat) (body:SE->SMode->SS->SKont->Prop) (e:SE) (u:SMode) (σ:SS) (k:SKont):Prop:=
 match e.defers with
 | []=>(∃x,c.pre x/\entCut base c x e σ)/\noPan u/\∀x,c.pre x->body (SE.ofList n (c.tm x)) u (SS.ofList (c.own x)) fun y e u' σ=>match y with
   | .normal=>(bif Nat.beq e.n n then True else False)/\eqM u' u/\(match e.defers with
     | []=>True
     | _=>False)/\∃x',c.pre x'/\c.mu x'<c.mu x/\entCut base c x' e σ
   | y=>k y e u' σ
 | _=>False
def cutW (base:List Nat) (c:Cut) (n:Nat) (body:SE->SMode->SS->SKont->Prop) (e:SE) (u:SMode) (σ:SS) (k:SKont):Prop:=
 match e.defers with
 | []=>(∃x,c.pre x/\entCut base c x e σ)/\noPan u/\∀x,c.pre x->body (SE.ofList n (c.tm x)) u (SS.ofList (c.own x)) k
 | _=>False
def lookS (base:T SV) (dm:T Nat) (cls:T Nat) (i m:Nat) (V:T SV) (d:Tmp) (t:T SV):T SV:=
 match dm.get d with
 | none=>match base.get d with
   | some v=>t.set d v
   | none=>t
 | some j=>bif bitB m j then
    match V.get j with
    | some v=>t.set d v
    | none=>t
   else match cls.get j with
    | some mj=>bif bitB mj i then
       match base.get d with
       | some v=>t.set d v
       | none=>t
      else t
    | none=>t
def looksS (base:T SV) (dm:T Nat) (cls:T Nat) (i m:Nat) (V:T SV):List Operand->T SV->T SV
 | [],t=>t
 | .tmp d::r,t=>looksS base dm cls i m V r (lookS base dm cls i m V d t)
 | _::r,t=>looksS base dm cls i m V r t
def envS (base:SE) (ops:List Oper) (dm:T Nat) (cls:T Nat) (i m:Nat) (V:T SV) (o:Oper):SE:=
 let t:=looksS base.tmps dm cls i m V o.op.operands.toList .nil
 {base with tmps:=match o.guard with
  | none=>t
  | some (j,_)=>match nth ops j with
    | none=>t
    | some oj=>match oj.dst with
      | none=>t
      | some d=>lookS base.tmps dm cls i m V d t}
structure PtS where
 σ:SS
 done:Nat
 clos:Nat
structure QuS where
 i:Nat
 m:Nat
 n:Nat
 fp:List Nat
mutual
def sureV:SV->Bool
 | .undef=>false
 | .agg l=>sureL l
 | .tup l=>sureL l
 | .fn _ a c=>sureL a&&sureL c
 | .ifc _ v=>sureV v
 | .may _ v=>sureV v
 | _=>true
def sureL:List SV->Bool
 | []=>true
 | v::r=>sureV v&&sureL r
end
def fpV:SV->List Nat
 | .sl id _ _ _ _ _=>[id]
 | .ptr id _ _ _=>[id]
 | .may _ (.sl id _ _ _ _ _)=>[id]
 | .may _ (.ptr id _ _ _)=>[id]
 | _=>[]
def fpOp (C:Cx) (e:SE):Op->List Nat
 | .load _ a=>match e.eval C a with
   | some v=>fpV v
   | none=>[]
 | .convert _ _ a=>match e.eval C a with
   | some v=>fpV v
   | none=>[]
 | _=>[]
def forceN {α:Type} (f:Nat->α) (n:Nat):α:=Nat.rec (motive:=fun _=>α) (f 0) (fun m _=>f (Nat.succ m)) n
theorem forceN_eq {α:Type} (f:Nat->α) (n:Nat):forceN f n=f n:=by cases n<;>rfl
def subF (a b:Nat):Bool:=forceN (fun a=>forceN (fun b=>subB a b) b) a
def landF (a b:Nat):Nat:=forceN (fun a=>forceN (fun b=>Nat.land a b) b) a
def bitF (a b:Nat):Bool:=forceN (fun a=>forceN (fun b=>bitB a b) b) a
def bltF (a b:Nat):Bool:=forceN (fun a=>forceN (fun b=>Nat.blt a b) b) a
theorem subF_eq (a b:Nat):subF a b=subB a b:=by simp only [subF,forceN_eq]
theorem landF_eq (a b:Nat):landF a b=Nat.land a b:=by simp only [landF,forceN_eq]
theorem bitF_eq (a b:Nat):bitF a b=bitB a b:=by simp only [bitF,forceN_eq]
theorem bltF_eq (a b:Nat):bltF a b=Nat.blt a b:=by simp only [bltF,forceN_eq]
def firstPt (x:Nat):List PtS->Option PtS
 | []=>none
 | p::r=>match firstPt x r with
   | some q=>some q
   | none=>bif subF x p.done then some p else none
def needsOk (m need:Nat) (W:T Nat):Nat->Bool
 | 0=>true
 | j+1=>(!bitB m j||(match W.get j with
    | some w=>subB w need
    | none=>false))&&needsOk m need W j
def stayOk (n:Nat) (σ:SS):List Nat->Bool
 | []=>true
 | id::r=>(match σ.own.get id with
    | some o=>bltF o.stamp n
    | none=>false)&&stayOk n σ r
def quOk (H:Nat) (p:PtS):List QuS->Bool
 | []=>true
 | q::r=>(bif subF (landF q.m H) p.done&& !bitF p.clos q.i then stayOk q.n p.σ q.fp else true)&&quOk H p r
def qusOk (H:Nat) (qs:List QuS):List PtS->Bool
 | []=>true
 | p::r=>quOk H p qs&&qusOk H qs r
def putsS (V:T SV):List Oper->Nat->SE->Option SE
 | [],_,e=>some e
 | o::r,i,e=>match V.get i with
   | some v=>match e.put o.dst v with
     | some e=>putsS V r (i+1) e
     | none=>none
   | none=>none
def quietW (C:Cx) (ops:List Oper) (e:SE) (σ:SS) (o:Oper):VP:=
 match guardS ops e o with
 | none=>none
 | some none=>valS C e true σ o.op
 | some (some (_,g,_,_))=>match valS C e g σ o.op with
   | some (ps,v)=>some (ps.map (g=true->·),.may g v)
   | none=>some ([g=false],.may g (.bool false))
def heavyW (C:Cx) (rec:SRec) (e:SE) (o:Oper) (σ:SS) (k:SV->SS->Prop):Prop:=
 opW C e o σ {
  val:=k
  enter:=fun f args σ=>rec.call false f args .run σ (fun v _ σ=>k v σ) (fun _ _ _=>False)
  pan:=fun _ _=>False
  dfr:=fun _=>False
  recover:=False}
def pureF (rec:SRec) (o:Oper):Option (FuncId×PSpec):=match o.op with
 | .call ⟨.value (.func f),_,_⟩=>match rec.pure f with
   | some P=>some (f,P)
   | none=>none
 | _=>none
def pureW (C:Cx) (f:FuncId) (P:PSpec) (x:P.X) (e:SE) (o:Oper) (σ:SS):Prop:=
 opW C e o σ {
  val:=fun _ _=>False
  enter:=fun f' args σ=>bif Nat.beq f' f then P.cond x args σ else False
  pan:=fun _ _=>False
  dfr:=fun _=>False
  recover:=False}
def splitS (V:T SV) (o:Oper):Option (Nat×Bool):=
 match o.guard with
 | some (j,_)=>match V.get j with
   | some (.bool b)=>some (j,b)
   | _=>none
 | none=>none
def allocT (o:Oper):Option TypeId:=
 match o.guard with
 | none=>match o.op with
   | .alloc t=>some t
   | _=>none
 | some _=>none
def convT (C:Cx) (o:Oper):Option TypeId:=
 match o.guard with
 | none=>match o.op with
   | .convert src dst _=>match C.und src,C.und dst with
     | some _,some (.slice e)=>bif isU8 C e then some e else none
     | _,_=>none
   | _=>none
 | some _=>none
def convX (C:Cx) (e:SE) (o:Oper):Option (List Prop×List UInt8):=match o.op with
 | .convert _ _ x=>match argS C e true x with
   | some (p,.str l)=>some (p,l)
   | _=>none
 | _=>none
def mergeW (C:Cx) (keep:Nat->Bool) (w:Nat):List (Nat×Oper)->T SV->T Nat->SS->Option (T SV×T Nat×SS×List (Nat×Oper))
 | [],V,W,σ=>some (V,W,σ,[])
 | (j,o)::r,V,W,σ=>bif keep j then
     match allocT o with
     | some t=>match zeroS C t with
       | some z=>bif oneL z&&sureL z then mergeW C keep w r (V.set j (.ptr σ.next 0 0 0)) (W.set j w) (σ.new (.cells z t)) else none
       | none=>none
     | none=>match convT C o,V.get j with
       | some e,some (.str l)=>mergeW C keep w r (V.set j (.sl σ.next 1 0 l.length l.length true)) (W.set j w) (σ.new (.bytes l e))
       | _,_=>none
   else match mergeW C keep w r V W σ with
    | some (V,W,σ,l)=>some (V,W,σ,(j,o)::l)
    | none=>none
def passW (C:Cx) (rec:SRec) (ops:List Oper) (dm cls:T Nat) (base:SE) (k:SE->SS->Prop):List Oper->Nat->T SV->T Nat->List QuS->List (Nat×Oper)->Nat->Nat->SS->List PtS->Prop
 | [],_,V,W,qs,pend,done,clos,σ,pts=>match mergeW C (fun _=>true) done pend V W σ with
   | none=>False
   | some (V,_,σ1,_)=>bif qusOk done qs (⟨σ,done,clos⟩::pts) then
     match putsS V ops 0 base with
     | some e=>k e σ1
     | none=>False
   else False
 | o::r,i,V,W,qs,pend,done,clos,σ,pts=>match cls.get i with
   | none=>False
   | some m=>
     bif heavyB C cls done i m o r then
      bif subB done m then
       match mergeW C (bitB m) (Nat.shiftLeft 1 i) pend V W σ with
       | none=>False
       | some (V,W,σ1,pend)=>
       let hv:=fun (V:T SV)=>match guardS ops (envS base ops dm cls i m V o) o with
       | none=>False
       | some none=>heavyW C rec (envS base ops dm cls i m V o) o σ1 fun a σ'=>
          passW C rec ops dm cls base k r (i+1) (V.set i a) (W.set i (Nat.shiftLeft 1 i)) qs pend (Nat.lor done (Nat.shiftLeft 1 i)) (Nat.lor clos m) σ' (⟨σ,done,clos⟩::pts)
       | some (some (d,g,vt,_))=>match pureF rec o with
         | some (f,P)=>∃x:P.X,(g=true->pureW C f P x {(envS base ops dm cls i m V o) with tmps:=(envS base ops dm cls i m V o).tmps.set d vt} o σ1)/\
           passW C rec ops dm cls base k r (i+1) (V.set i (.may g (P.val x))) (W.set i (Nat.shiftLeft 1 i)) qs pend (Nat.lor done (Nat.shiftLeft 1 i)) (Nat.lor clos m) σ1 (⟨σ,done,clos⟩::pts)
         | none=>ask g (heavyW C rec {(envS base ops dm cls i m V o) with tmps:=(envS base ops dm cls i m V o).tmps.set d vt} o σ1 fun a σ'=>
           passW C rec ops dm cls base k r (i+1) (V.set i a) (W.set i (Nat.shiftLeft 1 i)) qs pend (Nat.lor done (Nat.shiftLeft 1 i)) (Nat.lor clos m) σ' (⟨σ,done,clos⟩::pts))
           (passW C rec ops dm cls base k r (i+1) (V.set i .undef) (W.set i (Nat.shiftLeft 1 i)) qs pend (Nat.lor done (Nat.shiftLeft 1 i)) (Nat.lor clos m) σ1 (⟨σ,done,clos⟩::pts))
       match (bif (pureF rec o).isSome then none else splitS V o) with
       | some (j,b)=>ask b (hv (V.set j (.bool true))) (hv (V.set j (.bool false)))
       | none=>hv V
      else False
     else match allocT o with
     | some _=>bif Nat.beq m 0 then passW C rec ops dm cls base k r (i+1) V W qs (pend++[(i,o)]) done clos σ pts else False
     | none=>match convT C o with
     | some _=>match convX C (envS base ops dm cls i m V o) o with
       | some (ps,l)=>bif needsOk m (Nat.land m done) W i then allP (ps++[l.length<1099511627776]) (passW C rec ops dm cls base k r (i+1) (V.set i (.str l)) W qs (pend++[(i,o)]) done clos σ pts) else False
       | none=>False
     | none=>match firstPt (Nat.land m done) (⟨σ,done,clos⟩::pts) with
       | none=>False
       | some p=>match quietW C ops (envS base ops dm cls i m V o) p.σ o with
         | none=>False
         | some (ps,a)=>bif sureV a&&(needsOk m (Nat.land m done) W i&&stayOk p.σ.next σ (fpOp C (envS base ops dm cls i m V o) o.op)) then
            allP ps (bindS o a fun a=>passW C rec ops dm cls base k r (i+1) (V.set i a) (W.set i (Nat.land m done)) (⟨i,m,p.σ.next,fpOp C (envS base ops dm cls i m V o) o.op⟩::qs) pend done clos σ pts)
           else False
def drawW (C:Cx) (rec:SRec) (cf:SCf) (ops:List Oper) (e:SE) (u:SMode) (σ:SS) (k:SKont):Prop:=
 match closA ops 0 .nil,dstA ops 0 .nil with
 | some cls,some dm=>passW C rec ops dm cls e (fun e σ=>k .normal e u σ) ops 0 .nil .nil [] [] 0 0 σ []
 | _,_=>False
def codeW (C:Cx) (rec:SRec) (base:List Nat) (An:Nat->Option Cut) (n:Nat) (cf:SCf):Code->SE->SMode->SS->SKont->Prop
 | .skip,e,u,σ,k=>k .normal e u σ
 | .label _,e,u,σ,k=>k .normal e u σ
 | .region _ ops draw,e,u,σ,k=>bif draw then drawW C rec cf ops.toList e u σ k else opsW C rec cf ops.toList ops.toList e u σ k
 | .seq a b,e,u,σ,k=>codeW C rec base An n cf a e u σ fun x e u σ=>match x with
   | .normal=>codeW C rec base An n cf b e u σ k
   | x=>k x e u σ
 | .cond c a b,e,u,σ,k=>match e.eval C c with
   | some (.bool t)=>ask t (codeW C rec base An n cf a e u σ k) (codeW C rec base An n cf b e u σ k)
   | _=>False
 | .block id (.loop b),e,u,σ,k=>match An id with
   | some c=>match c.rel with
     | none=>cutLoopW base c e.n (codeW C rec base An n cf b) e u σ (inBlockW id k)
     | some rel=>∃r,cutLoopW base (c.at rel r) e.n (codeW C rec base An n cf b) e u σ (inBlockW id k)
   | none=>iterW (codeW C rec base An n cf b) n e u σ (inBlockW id k)
 | .block id b,e,u,σ,k=>match An id with
   | some c=>cutW base c e.n (codeW C rec base An n cf b) e u σ (inBlockW id k)
   | none=>codeW C rec base An n cf b e u σ (inBlockW id k)
 | .loop b,e,u,σ,k=>iterW (codeW C rec base An n cf b) n e u σ k
 | .rangeFunc _ _ _ _,_,_,_,_=>False
 | .exit id,e,u,σ,k=>k (.exit id) e u σ
 | .scope b,e,u,σ,k=>codeW C rec base An n cf b e u σ fun x e u σ=>match x with
   | .goto _=>False
   | x=>k x e u σ
 | .goto l,e,u,σ,k=>k (.goto l) e u σ
 | .ret,e,u,σ,k=>k .ret e u σ
 | .refuse _,_,_,_,_=>False
def resultsW (C:Cx) (e:SE) (σ:SS):List ResultVar->(List SV->Prop)->Prop
 | [],k=>k []
 | .tmp t::r,k=>match e.tmps.get t with
   | some (.may _ _)=>False
   | some v=>resultsW C e σ r fun vs=>k (v::vs)
   | none=>False
 | .cell a t::r,k=>match e.tmps.get a with
   | some p=>match loadS C σ t p with
     | some (ps,v)=>allP ps (resultsW C e σ r fun vs=>k (v::vs))
     | none=>False
   | none=>False
def tupleS:List SV->SV
 | [v]=>v
 | vs=> .tup vs
def settleS:SMode->SMode
 | .panicking ((_,true)::_)=> .returning
 | m=>m
def raisedS (u:SMode) (c:SChain):SMode:=
 match u with
 | .panicking old=> .panicking (c++old)
 | _=> .panicking c
abbrev KR:=SV->SMode->SS->Prop
abbrev KP:=SChain->SMode->SS->Prop
def leaveW (C:Cx) (rec:SRec) (fn:Func) (u0:SMode) (e:SE) (kr:KR) (kp:KP):Nat->List SDef->SMode->SS->Prop
 | 0,_,_,_=>False
 | _+1,[],m,σ=>match m with
   | .returning=>resultsW C e σ fn.results.toList fun vs=>kr (tupleS vs) u0 σ
   | .panicking c=>kp c u0 σ
   | .run=>False
 | n+1,d::ds,m,σ=>match m with
   | .run=>False
   | m=>match C.funcs.get d.f with
     | some fn'=>bif fn'.body.isSome then rec.call true d.f (d.args++d.cap) m σ (fun _ m σ=>leaveW C rec fn u0 e kr kp n ds (settleS m) σ) (fun ch m σ=>leaveW C rec fn u0 e kr kp n ds (raisedS m ch) σ)
       else False
     | none=>False
def argsTS:List SV->Nat->T SV->T SV
 | [],_,t=>t
 | v::r,i,t=>argsTS r (i+1) (t.set i v)
def externW (σ:SS) (name origin:String) (args:List SV) (k:SV->Prop):Prop:=
 bif origin== "" &&name== "internal/bytealg.Compare" then
  match args with
  | [a,b]=>match a,b with
    | .str _,_=>False
    | _,.str _=>False
    | a,b=>match rdBytesS σ a,rdBytesS σ b with
      | some (p,x),some (q,y)=>allP (p++q) (k (.int .i64 (cmpBytes x y)))
      | _,_=>False
  | _=>False
 else False
def bodyW (C:Cx) (rec:SRec) (base:List Nat) (An:Nat->Option Cut) (n:Nat) (dfr:Bool) (f:FuncId) (args:List SV) (u:SMode) (σ:SS) (kr:KR) (kp:KP):Prop:=
 match C.funcs.get f with
 | none=>False
 | some fn=>match fn.body with
   | none=>bif dfr then False else externW σ fn.name fn.origin args fun v=>kr v u σ
   | some c=>match C.sure.get f with
     | some v=>bif dfr then False else match args,ofV v with
       | [],some a=>kr a u σ
       | _,_=>False
     | none=>
     bif isJoin C f then False else bif Nat.ble args.length fn.ntmps then
      codeW C rec base An n ⟨f,dfr⟩ c {tmps:=argsTS args 0 .nil,n:=fn.ntmps,defers:=[]} u σ fun x e u σ=>match x with
       | .normal | .ret=>leaveW C rec fn u e kr kp n e.defers .returning σ
       | .panic ch=>leaveW C rec fn u e kr kp n e.defers (.panicking ch) σ
       | _=>False
     else False
def oneChain:SChain->Option SV
 | [(v,false)]=>some v
 | _=>none
def spGet:List (Nat×FSpec)->Nat->Option FSpec
 | [],_=>none
 | (g,S)::r,f=>bif Nat.beq g f then some S else spGet r f
def pureS (S:FSpec):Option PSpec:=match S.pv with
 | some w=>some {X:=S.X,val:=fun x=>renV [] (w.1 x),cond:=fun x l σ=>S.pre x/\noBor (w.1 x)/\entL σ true entF (S.args x) l [] [] (fun ρ _=>match ρ with
    | []=>True
    | _=>False)}
 | none=>none
def recW (C:Cx) (Sp:List (Nat×FSpec)):Nat->SRec
 | 0=>{call:=fun _ _ _ _ _ _ _=>False}
 | n+1=>SRec.mk (fun dfr f args u σ kr kp=>
    bif dfr then bodyW C (recW C Sp n) [] (fun _=>none) n dfr f args u σ kr kp
    else match spGet Sp f with
     | some S=>match u with
       | .run=>specW S args σ (fun v σ=>kr v .run σ) (fun v σ=>kp [(v,false)] .run σ)
       | _=>False
     | none=>bodyW C (recW C Sp n) [] (fun _=>none) n dfr f args u σ kr kp) (fun f=>match spGet Sp f with
    | some S=>pureS S
    | none=>none)
def FnVC (C:Cx) (Sp:List (Nat×FSpec)) (f:FuncId) (S:FSpec) (An:S.X->Nat->Option Cut) (n:Nat):Prop:=
 ∀x,S.pre x->bodyW C (recW C Sp n) S.base (An x) n false f (S.args x) .run (SS.ofList (S.own x))
  (fun v u σ=>match u with
    | .run=>endW S.base v σ (S.out x)
    | _=>False)
  (fun ch u σ=>match u with
    | .run=>match oneChain ch with
      | some v=>endP S.base v σ (S.out x)
      | none=>False
    | _=>False)
end Go.Eng
