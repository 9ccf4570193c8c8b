import Derived.Test.YtoiobpicaonamaaGreatDoorCallsSameMSeat
import Derived.Test.YtoiobpicaonamaaGreatDoorSymF
import Derived.Test.YtoiobpicaonamaaGreatDoorCallsSameIds
namespace Go.Proofs
set_option linter.unusedSimpArgs false
open Go.Eng
set_option linter.unusedVariables false
noncomputable def Tryz.cy : Cx := { Tryz.cx with sure := (T.nil : T Value).set 5 (.bool true), need := some 0 }
structure MOp where
  kind : Int
  table : List UInt8
  key : List UInt8
  value : List UInt8
  has : Bool
  old : List UInt8
  to : List UInt8
  most : Int
def opC (r : Nat) (o : MOp) : List SV := [.int .i64 o.kind, .str o.table, .bytes r false o.key, .bytes r false o.value, .bool o.has, .bytes r false o.old, .bytes r false o.to, .int .i64 o.most]
structure MCall where
  n : Nat
  f : Nat → MOp
def opsV (r : Nat) (c : MCall) : SV := .imm r false c.n 8 fun i => opC r (c.f i)
structure MRow where
  key : List UInt8
  value : List UInt8
def rowC (r : Nat) (x : MRow) : List SV := [.bytes r false x.key, .bytes r false x.value]
structure MOut where
  has : Bool
  value : List UInt8
  n : Nat
  f : Nat → MRow
def outC (r : Nat) (o : MOut) : List SV := [.bool o.has, .bytes r false o.value, .imm r false o.n 2 fun i => rowC r (o.f i)]
structure MRes where
  abort : Int
  place : Int
  n : Nat
  f : Nat → MOut
def outsV (r : Nat) (x : MRes) : SV := .imm r false x.n 3 fun i => outC r (x.f i)
def resC (r : Nat) (x : MRes) : List SV := [.int .i64 x.abort, .int .i64 x.place, outsV r x]
def FOpEq (a b : MOp) : Prop := a.kind = b.kind ∧ a.table = b.table ∧ a.has = b.has ∧ a.most = b.most ∧ a.key = b.key ∧ a.value = b.value ∧ a.old = b.old ∧ a.to = b.to
def FCallEq (a b : MCall) : Prop := a.n = b.n ∧ ∀ i, i < a.n → FOpEq (a.f i) (b.f i)
def FRowEq (a b : MRow) : Prop := a.key = b.key ∧ a.value = b.value
def FOutEq (a b : MOut) : Prop := a.has = b.has ∧ a.value = b.value ∧ a.n = b.n ∧ ∀ i, i < a.n → FRowEq (a.f i) (b.f i)
def FResEq (a b : MRes) : Prop := a.abort = b.abort ∧ a.place = b.place ∧ a.n = b.n ∧ ∀ i, i < a.n → FOutEq (a.f i) (b.f i)
noncomputable def FSame (a b : MCall) : Bool := @decide (FCallEq a b) (Classical.propDecidable _)
noncomputable def FAlike (a b : MRes) : Bool := @decide (FResEq a b) (Classical.propDecidable _)
theorem FSame_true {a b : MCall} : FSame a b = true ↔ FCallEq a b := @decide_eq_true_iff _ (Classical.propDecidable _)
theorem FAlike_true {a b : MRes} : FAlike a b = true ↔ FResEq a b := @decide_eq_true_iff _ (Classical.propDecidable _)
theorem FSame_yes {a b : MCall} (h : FCallEq a b) : FSame a b = true := FSame_true.2 h
theorem FSame_no {a b : MCall} (h : ¬ FCallEq a b) : FSame a b = false := by
  cases e : FSame a b with
  | false => rfl
  | true => exact absurd (FSame_true.1 e) h
structure XCC where
  a : MCall
  b : MCall
structure XIx where
  i : Nat
noncomputable def sp_Same : FSpec where
  X := XCC
  pre x := x.a.n < 1099511627776 ∧ x.b.n < 1099511627776
  args x := [.agg [opsV 0 x.a], .agg [opsV 0 x.b]]
  base := []
  own _ := []
  out x := .ret (.bool (FSame x.a x.b)) []
noncomputable def an_calls_Same (x : XCC) : Nat → Option Cut
  | 0 => some { X := XIx, pre := fun y => y.i ≤ x.a.n ∧ x.a.n = x.b.n ∧ ∀ j, j < y.i → FOpEq (x.a.f j) (x.b.f j)
                tm := fun y => [(2, .ptr 0 0 0 0), (3, .ptr 1 0 0 0), (16, opsV 0 x.a), (17, .int .i64 x.a.n), (18, .int .i64 y.i)]
                own := fun y => [(0, .cells [opsV 0 x.a] Ty.api_Call), (1, .cells [opsV 0 x.b] Ty.api_Call)]
                mu := fun y => x.a.n - y.i }
  | _ => none
def vc_calls_Same : Prop := FnVC Tryz.cy [] Id.calls_Same sp_Same an_calls_Same 10
noncomputable def an_ref_Same (x : XCC) : Nat → Option Cut
  | 0 => some { X := XIx, pre := fun y => y.i ≤ x.a.n ∧ x.a.n = x.b.n ∧ ∀ j, j < y.i → FOpEq (x.a.f j) (x.b.f j)
                tm := fun y => [(2, .ptr 0 0 0 0), (3, .ptr 1 0 0 0), (5, .int .i64 y.i)]
                own := fun y => [(0, .cells [opsV 0 x.a] Ty.api_Call), (1, .cells [opsV 0 x.b] Ty.api_Call)]
                mu := fun y => x.a.n - y.i }
  | _ => none
def vc_ref_Same : Prop := FnVC Tryz.cy [] Id.wicketref06_Same sp_Same an_ref_Same 10
end Go.Proofs
