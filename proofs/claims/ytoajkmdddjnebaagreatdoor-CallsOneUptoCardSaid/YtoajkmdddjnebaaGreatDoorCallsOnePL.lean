set_option linter.unusedSimpArgs false
set_option linter.unusedVariables false
namespace Go.Proofs
def formF:Nat->Nat->List UInt8
 | 0,_=>[]
 | f+1,n=>if n>127 then UInt8.ofNat (n%128+128)::formF f (n/128) else [UInt8.ofNat n]
def FNum (n:Nat):List UInt8:=formF 10 n
theorem formF_more {m n:Nat} (h:127<n):formF (m+1) n=UInt8.ofNat (n%128+128)::formF m (n/128):=by simp [formF,h]
theorem formF_last {m n:Nat} (h:¬127<n):formF (m+1) n=[UInt8.ofNat n]:=by simp [formF,h]
theorem formF_len:∀(f n:Nat),(formF f n).length<=f
 | 0,_=>by simp [formF]
 | f+1,n=>by unfold formF;split<;>simp;exact formF_len f _
theorem FNum_len (n:Nat):(FNum n).length<=10:=formF_len 10 n
theorem FNum_pos (n:Nat):0<(FNum n).length:=by unfold FNum formF;split<;>simp
abbrev badC (i:Nat) (c:UInt8):Prop:=(i=9/\1<c.toNat)\/(0<i/\c.toNat=0)
def Frd:Nat->Nat->List UInt8->Option (Nat×Nat)
 | _,_,[]=>none
 | i,acc,c::r=>
   if badC i c then none
   else if c.toNat<128 then some (acc+c.toNat%128*128^i,i+1)
   else Frd (i+1) (acc+c.toNat%128*128^i) r
structure Reads {α:Type} (p:List UInt8->Nat->Option (α×Nat)) (e:α->List UInt8) (ok:α->Prop):Prop where
 sound:∀{l:List UInt8} {a:Nat} {x:α} {a':Nat},a<=l.length->p l a=some (x,a')->ok x/\l.drop a=e x++l.drop a'/\a<=a'/\a'<=l.length
 comp:∀{l:List UInt8} {a:Nat} {x:α} {r:List UInt8},a<=l.length->ok x->l.drop a=e x++r->p l a=some (x,a+(e x).length)
def FCat {α:Type} (e:α->List UInt8):List α->List UInt8
 | []=>[]
 | x::r=>e x++FCat e r
theorem FCat_append {α:Type} (e:α->List UInt8):∀(x y:List α),FCat e (x++y)=FCat e x++FCat e y
 | [],y=>rfl
 | a::x,y=>by simp only [List.cons_append,FCat,FCat_append e x y,List.append_assoc]
def FBytes (b:List UInt8):List UInt8:=FNum b.length++b
def FFlag (b:Bool):List UInt8:=[if b then 1 else 0]
structure LRow where
 key:List UInt8
 value:List UInt8
 deriving DecidableEq
structure LOut where
 has:Bool
 value:List UInt8
 rows:List LRow
 deriving DecidableEq
structure LRes where
 abort:Int
 place:Int
 outs:List LOut
 deriving DecidableEq
def FRow (x:LRow):List UInt8:=FBytes x.key++FBytes x.value
def FRows (l:List LRow):List UInt8:=FNum l.length++FCat FRow l
def FOut (o:LOut):List UInt8:=FFlag o.has++(FBytes o.value++FRows o.rows)
structure Comp {α:Type} (p:List UInt8->Nat->Option (α×Nat)) (e:α->List UInt8) (ok:α->Prop):Prop where
 comp:∀{l:List UInt8} {a:Nat} {x:α} {r:List UInt8},a<=l.length->ok x->l.drop a=e x++r->p l a=some (x,a+(e x).length)
def FCmp:List UInt8->List UInt8->Int
 | [],[]=>0
 | [],_::_=> -1
 | _::_,[]=>1
 | a::x,b::y=>if a<b then -1 else if b<a then 1 else FCmp x y
end Go.Proofs
