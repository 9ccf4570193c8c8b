import Derived.Test.YtoiobpicaonamaaGreatDoorCallsSameSA
namespace Go.Proofs
open Go.Eng
set_option linter.unusedVariables false
set_option linter.unusedSimpArgs false
set_option maxRecDepth 100000
def nf_calls_Same : Prop :=
 ∀ (x : XCC), x.a.n < 1099511627776 ∧ x.b.n < 1099511627776 → Eng.ask (!decide (Eq (α := Int) (↑x.a.n : Int) (↑x.b.n : Int))) (FSame x.a x.b = false ∧ True) ((∃ (x_1 : XIx), (x_1.i ≤ x.a.n ∧ x.a.n = x.b.n ∧ ∀ (j : Nat), j < x_1.i → FOpEq (x.a.f j) (x.b.f j)) ∧ 0 = 0 ∧ 0 = 0 ∧ 0 = 0 ∧ 0 = 0 ∧ 0 = 0 ∧ 0 = 0 ∧ (false = true → false = true) ∧ x.a.n = x.a.n ∧ (∀ (i : Nat), i < x.a.n → (IntKind.i64 = IntKind.i64 ∧ (x.a.f i).kind = (x.a.f i).kind) ∧ (x.a.f i).table = (x.a.f i).table ∧ (true = true ∧ (false = true → false = true) ∧ (x.a.f i).key = (x.a.f i).key) ∧ (true = true ∧ (false = true → false = true) ∧ (x.a.f i).value = (x.a.f i).value) ∧ (x.a.f i).has = (x.a.f i).has ∧ (true = true ∧ (false = true → false = true) ∧ (x.a.f i).old = (x.a.f i).old) ∧ (true = true ∧ (false = true → false = true) ∧ (x.a.f i).to = (x.a.f i).to) ∧ (IntKind.i64 = IntKind.i64 ∧ (x.a.f i).most = (x.a.f i).most) ∧ True) ∧ Eq (α := Int) (↑x.a.n : Int) (↑x.a.n : Int) ∧ (↑x_1.i : Int) = (0 : Int) ∧ (false = true → false = true) ∧ x.a.n = x.a.n ∧ (∀ (i : Nat), i < x.a.n → (IntKind.i64 = IntKind.i64 ∧ (x.a.f i).kind = (x.a.f i).kind) ∧ (x.a.f i).table = (x.a.f i).table ∧ (true = true ∧ (false = true → false = true) ∧ (x.a.f i).key = (x.a.f i).key) ∧ (true = true ∧ (false = true → false = true) ∧ (x.a.f i).value = (x.a.f i).value) ∧ (x.a.f i).has = (x.a.f i).has ∧ (true = true ∧ (false = true → false = true) ∧ (x.a.f i).old = (x.a.f i).old) ∧ (true = true ∧ (false = true → false = true) ∧ (x.a.f i).to = (x.a.f i).to) ∧ (IntKind.i64 = IntKind.i64 ∧ (x.a.f i).most = (x.a.f i).most) ∧ True) ∧ (false = true → false = true) ∧ x.b.n = x.b.n ∧ (∀ (i : Nat), i < x.b.n → (IntKind.i64 = IntKind.i64 ∧ (x.b.f i).kind = (x.b.f i).kind) ∧ (x.b.f i).table = (x.b.f i).table ∧ (true = true ∧ (false = true → false = true) ∧ (x.b.f i).key = (x.b.f i).key) ∧ (true = true ∧ (false = true → false = true) ∧ (x.b.f i).value = (x.b.f i).value) ∧ (x.b.f i).has = (x.b.f i).has ∧ (true = true ∧ (false = true → false = true) ∧ (x.b.f i).old = (x.b.f i).old) ∧ (true = true ∧ (false = true → false = true) ∧ (x.b.f i).to = (x.b.f i).to) ∧ (IntKind.i64 = IntKind.i64 ∧ (x.b.f i).most = (x.b.f i).most) ∧ True) ∧ True) ∧ True ∧ ∀ (x_1 : XIx), (x_1.i ≤ x.a.n ∧ x.a.n = x.b.n ∧ ∀ (j : Nat), j < x_1.i → FOpEq (x.a.f j) (x.b.f j)) → Eng.ask (decide (LT.lt (α := Int) (↑x_1.i : Int) (↑x.a.n : Int))) ((0 : Int) ≤ (↑x_1.i : Int) ∧ Int.toNat (↑x_1.i : Int) < x.a.n ∧ (0 : Int) ≤ (↑x_1.i : Int) ∧ Int.toNat (↑x_1.i : Int) < x.b.n ∧ ∀ (q : Bool), q = !decide ((x.a.f (Int.toNat (↑x_1.i : Int))).kind = (x.b.f (Int.toNat (↑x_1.i : Int))).kind) → ((bif false then q else !q) = true → (bif false then q else !q) = true → (bif false then q else !q) = true) ∧ ((bif false then q else !q) = true → (bif false then q else !q) = true → (bif false then q else !q) = true) ∧ ((bif false then q else !q) = true → (bif false then q else !q) = true → (bif false then q else !q) = true) ∧ ((bif false then q else !q) = true → (bif false then q else !q) = true → (bif false then q else !q) = true) ∧ (true = true → q = false → (bif false then q else !q) = true) ∧ ∀ (q_1 : Bool), (q_1 = bif q then true else !decide ((x.a.f (Int.toNat (↑x_1.i : Int))).table = (x.b.f (Int.toNat (↑x_1.i : Int))).table)) → ((bif false then q_1 else !q_1) = true → (bif false then q_1 else !q_1) = true → (bif false then q_1 else !q_1) = true) ∧ ((bif false then q_1 else !q_1) = true → (bif false then q_1 else !q_1) = true → (bif false then q_1 else !q_1) = true) ∧ ((bif false then q_1 else !q_1) = true → (bif false then q_1 else !q_1) = true → (bif false then q_1 else !q_1) = true) ∧ ((bif false then q_1 else !q_1) = true → (bif false then q_1 else !q_1) = true → (bif false then q_1 else !q_1) = true) ∧ (true = true → q_1 = false → (bif false then q_1 else !q_1) = true) ∧ ∀ (q : Bool), (q = bif q_1 then true else !(x.a.f (Int.toNat (↑x_1.i : Int))).has == (x.b.f (Int.toNat (↑x_1.i : Int))).has) → ((bif false then q else !q) = true → (bif false then q else !q) = true → (bif false then q else !q) = true) ∧ ((bif false then q else !q) = true → (bif false then q else !q) = true → (bif false then q else !q) = true) ∧ ((bif false then q else !q) = true → (bif false then q else !q) = true → (bif false then q else !q) = true) ∧ ((bif false then q else !q) = true → (bif false then q else !q) = true → (bif false then q else !q) = true) ∧ (true = true → q = false → (bif false then q else !q) = true) ∧ ∀ (q_2 : Bool), (q_2 = bif q then true else !decide ((x.a.f (Int.toNat (↑x_1.i : Int))).most = (x.b.f (Int.toNat (↑x_1.i : Int))).most)) → ((bif false then q_2 else !q_2) = true → (bif false then q_2 else !q_2) = true → (bif false then q_2 else !q_2) = true) ∧ ((bif false then q_2 else !q_2) = true → (bif false then q_2 else !q_2) = true → (bif false then q_2 else !q_2) = true) ∧ Eng.ask (bif false then q_2 else !q_2) ((true = true → (bif false then q_2 else !q_2) = true) ∧ (true = true → (bif false then q_2 else !q_2) = true) ∧ (true = true → false = false → true = true) ∧ ∀ (q : Bool), (q = bif false then true else !decide ((x.a.f (Int.toNat (↑x_1.i : Int))).key = (x.b.f (Int.toNat (↑x_1.i : Int))).key)) → ((bif false then q else !q) = true → (bif false then q else !q) = true → (bif false then q else !q) = true) ∧ ((bif false then q else !q) = true → (bif false then q else !q) = true → (bif false then q else !q) = true) ∧ Eng.ask (bif false then q else !q) ((true = true → (bif false then q else !q) = true) ∧ (true = true → (bif false then q else !q) = true) ∧ (true = true → false = false → true = true) ∧ ∀ (q : Bool), (q = bif false then true else !decide ((x.a.f (Int.toNat (↑x_1.i : Int))).value = (x.b.f (Int.toNat (↑x_1.i : Int))).value)) → ((bif false then q else !q) = true → (bif false then q else !q) = true → (bif false then q else !q) = true) ∧ ((bif false then q else !q) = true → (bif false then q else !q) = true → (bif false then q else !q) = true) ∧ Eng.ask (bif false then q else !q) ((true = true → (bif false then q else !q) = true) ∧ (true = true → (bif false then q else !q) = true) ∧ (true = true → false = false → true = true) ∧ ∀ (q : Bool), (q = bif false then true else !decide ((x.a.f (Int.toNat (↑x_1.i : Int))).old = (x.b.f (Int.toNat (↑x_1.i : Int))).old)) → ((bif false then q else !q) = true → (bif false then q else !q) = true → (bif false then q else !q) = true) ∧ ((bif false then q else !q) = true → (bif false then q else !q) = true → (bif false then q else !q) = true) ∧ Eng.ask (bif false then q else !q) ((true = true → (bif false then q else !q) = true) ∧ (true = true → (bif false then q else !q) = true) ∧ (true = true → false = false → true = true) ∧ Eng.ask (bif false then true else !decide ((x.a.f (Int.toNat (↑x_1.i : Int))).to = (x.b.f (Int.toNat (↑x_1.i : Int))).to)) (FSame x.a x.b = false ∧ True) (True ∧ True ∧ True ∧ ∃ (x' : XIx), (x'.i ≤ x.a.n ∧ x.a.n = x.b.n ∧ ∀ (j : Nat), j < x'.i → FOpEq (x.a.f j) (x.b.f j)) ∧ x.a.n - x'.i < x.a.n - x_1.i ∧ 0 = 0 ∧ 0 = 0 ∧ 0 = 0 ∧ 0 = 0 ∧ 0 = 0 ∧ 0 = 0 ∧ (false = true → false = true) ∧ x.a.n = x.a.n ∧ (∀ (i : Nat), i < x.a.n → (IntKind.i64 = IntKind.i64 ∧ (x.a.f i).kind = (x.a.f i).kind) ∧ (x.a.f i).table = (x.a.f i).table ∧ (true = true ∧ (false = true → false = true) ∧ (x.a.f i).key = (x.a.f i).key) ∧ (true = true ∧ (false = true → false = true) ∧ (x.a.f i).value = (x.a.f i).value) ∧ (x.a.f i).has = (x.a.f i).has ∧ (true = true ∧ (false = true → false = true) ∧ (x.a.f i).old = (x.a.f i).old) ∧ (true = true ∧ (false = true → false = true) ∧ (x.a.f i).to = (x.a.f i).to) ∧ (IntKind.i64 = IntKind.i64 ∧ (x.a.f i).most = (x.a.f i).most) ∧ True) ∧ Eq (α := Int) (↑x.a.n : Int) (↑x.a.n : Int) ∧ (↑x'.i : Int) = IntKind.i64.wrap ((↑x_1.i : Int) + (1 : Int)) ∧ (false = true → false = true) ∧ x.a.n = x.a.n ∧ (∀ (i : Nat), i < x.a.n → (IntKind.i64 = IntKind.i64 ∧ (x.a.f i).kind = (x.a.f i).kind) ∧ (x.a.f i).table = (x.a.f i).table ∧ (true = true ∧ (false = true → false = true) ∧ (x.a.f i).key = (x.a.f i).key) ∧ (true = true ∧ (false = true → false = true) ∧ (x.a.f i).value = (x.a.f i).value) ∧ (x.a.f i).has = (x.a.f i).has ∧ (true = true ∧ (false = true → false = true) ∧ (x.a.f i).old = (x.a.f i).old) ∧ (true = true ∧ (false = true → false = true) ∧ (x.a.f i).to = (x.a.f i).to) ∧ (IntKind.i64 = IntKind.i64 ∧ (x.a.f i).most = (x.a.f i).most) ∧ True) ∧ (false = true → false = true) ∧ x.b.n = x.b.n ∧ (∀ (i : Nat), i < x.b.n → (IntKind.i64 = IntKind.i64 ∧ (x.b.f i).kind = (x.b.f i).kind) ∧ (x.b.f i).table = (x.b.f i).table ∧ (true = true ∧ (false = true → false = true) ∧ (x.b.f i).key = (x.b.f i).key) ∧ (true = true ∧ (false = true → false = true) ∧ (x.b.f i).value = (x.b.f i).value) ∧ (x.b.f i).has = (x.b.f i).has ∧ (true = true ∧ (false = true → false = true) ∧ (x.b.f i).old = (x.b.f i).old) ∧ (true = true ∧ (false = true → false = true) ∧ (x.b.f i).to = (x.b.f i).to) ∧ (IntKind.i64 = IntKind.i64 ∧ (x.b.f i).most = (x.b.f i).most) ∧ True) ∧ True)) (FSame x.a x.b = false ∧ True)) (∀ (q : Bool), q = true → ((bif false then q else !q) = true → (bif false then q else !q) = true → (bif false then q else !q) = true) ∧ ((bif false then q else !q) = true → (bif false then q else !q) = true → (bif false then q else !q) = true) ∧ Eng.ask (bif false then q else !q) ((true = true → (bif false then q else !q) = true) ∧ (true = true → (bif false then q else !q) = true) ∧ (true = true → false = false → true = true) ∧ Eng.ask (bif false then true else !decide ((x.a.f (Int.toNat (↑x_1.i : Int))).to = (x.b.f (Int.toNat (↑x_1.i : Int))).to)) (FSame x.a x.b = false ∧ True) (True ∧ True ∧ True ∧ ∃ (x' : XIx), (x'.i ≤ x.a.n ∧ x.a.n = x.b.n ∧ ∀ (j : Nat), j < x'.i → FOpEq (x.a.f j) (x.b.f j)) ∧ x.a.n - x'.i < x.a.n - x_1.i ∧ 0 = 0 ∧ 0 = 0 ∧ 0 = 0 ∧ 0 = 0 ∧ 0 = 0 ∧ 0 = 0 ∧ (false = true → false = true) ∧ x.a.n = x.a.n ∧ (∀ (i : Nat), i < x.a.n → (IntKind.i64 = IntKind.i64 ∧ (x.a.f i).kind = (x.a.f i).kind) ∧ (x.a.f i).table = (x.a.f i).table ∧ (true = true ∧ (false = true → false = true) ∧ (x.a.f i).key = (x.a.f i).key) ∧ (true = true ∧ (false = true → false = true) ∧ (x.a.f i).value = (x.a.f i).value) ∧ (x.a.f i).has = (x.a.f i).has ∧ (true = true ∧ (false = true → false = true) ∧ (x.a.f i).old = (x.a.f i).old) ∧ (true = true ∧ (false = true → false = true) ∧ (x.a.f i).to = (x.a.f i).to) ∧ (IntKind.i64 = IntKind.i64 ∧ (x.a.f i).most = (x.a.f i).most) ∧ True) ∧ Eq (α := Int) (↑x.a.n : Int) (↑x.a.n : Int) ∧ (↑x'.i : Int) = IntKind.i64.wrap ((↑x_1.i : Int) + (1 : Int)) ∧ (false = true → false = true) ∧ x.a.n = x.a.n ∧ (∀ (i : Nat), i < x.a.n → (IntKind.i64 = IntKind.i64 ∧ (x.a.f i).kind = (x.a.f i).kind) ∧ (x.a.f i).table = (x.a.f i).table ∧ (true = true ∧ (false = true → false = true) ∧ (x.a.f i).key = (x.a.f i).key) ∧ (true = true ∧ (false = true → false = true) ∧ (x.a.f i).value = (x.a.f i).value) ∧ (x.a.f i).has = (x.a.f i).has ∧ (true = true ∧ (false = true → false = true) ∧ (x.a.f i).old = (x.a.f i).old) ∧ (true = true ∧ (false = true → false = true) ∧ (x.a.f i).to = (x.a.f i).to) ∧ (IntKind.i64 = IntKind.i64 ∧ (x.a.f i).most = (x.a.f i).most) ∧ True) ∧ (false = true → false = true) ∧ x.b.n = x.b.n ∧ (∀ (i : Nat), i < x.b.n → (IntKind.i64 = IntKind.i64 ∧ (x.b.f i).kind = (x.b.f i).kind) ∧ (x.b.f i).table = (x.b.f i).table ∧ (true = true ∧ (false = true → false = true) ∧ (x.b.f i).key = (x.b.f i).key) ∧ (true = true ∧ (false = true → false = true) ∧ (x.b.f i).value = (x.b.f i).value) ∧ (x.b.f i).has = (x.b.f i).has ∧ (true = true ∧ (false = true → false = true) ∧ (x.b.f i).old = (x.b.f i).old) ∧ (true = true ∧ (false = true → false = true) ∧ (x.b.f i).to = (x.b.f i).to) ∧ (IntKind.i64 = IntKind.i64 ∧ (x.b.f i).most = (x.b.f i).most) ∧ True) ∧ True)) (FSame x.a x.b = false ∧ True))) (∀ (q : Bool), q = true → ((bif false then q else !q) = true → (bif false then q else !q) = true → (bif false then q else !q) = true) ∧ ((bif false then q else !q) = true → (bif false then q else !q) = true → (bif false then q else !q) = true) ∧ Eng.ask (bif false then q else !q) ((true = true → (bif false then q else !q) = true) ∧ (true = true → (bif false then q else !q) = true) ∧ (true = true → false = false → true = true) ∧ ∀ (q : Bool), (q = bif false then true else !decide ((x.a.f (Int.toNat (↑x_1.i : Int))).old = (x.b.f (Int.toNat (↑x_1.i : Int))).old)) → ((bif false then q else !q) = true → (bif false then q else !q) = true → (bif false then q else !q) = true) ∧ ((bif false then q else !q) = true → (bif false then q else !q) = true → (bif false then q else !q) = true) ∧ Eng.ask (bif false then q else !q) ((true = true → (bif false then q else !q) = true) ∧ (true = true → (bif false then q else !q) = true) ∧ (true = true → false = false → true = true) ∧ Eng.ask (bif false then true else !decide ((x.a.f (Int.toNat (↑x_1.i : Int))).to = (x.b.f (Int.toNat (↑x_1.i : Int))).to)) (FSame x.a x.b = false ∧ True) (True ∧ True ∧ True ∧ ∃ (x' : XIx), (x'.i ≤ x.a.n ∧ x.a.n = x.b.n ∧ ∀ (j : Nat), j < x'.i → FOpEq (x.a.f j) (x.b.f j)) ∧ x.a.n - x'.i < x.a.n - x_1.i ∧ 0 = 0 ∧ 0 = 0 ∧ 0 = 0 ∧ 0 = 0 ∧ 0 = 0 ∧ 0 = 0 ∧ (false = true → false = true) ∧ x.a.n = x.a.n ∧ (∀ (i : Nat), i < x.a.n → (IntKind.i64 = IntKind.i64 ∧ (x.a.f i).kind = (x.a.f i).kind) ∧ (x.a.f i).table = (x.a.f i).table ∧ (true = true ∧ (false = true → false = true) ∧ (x.a.f i).key = (x.a.f i).key) ∧ (true = true ∧ (false = true → false = true) ∧ (x.a.f i).value = (x.a.f i).value) ∧ (x.a.f i).has = (x.a.f i).has ∧ (true = true ∧ (false = true → false = true) ∧ (x.a.f i).old = (x.a.f i).old) ∧ (true = true ∧ (false = true → false = true) ∧ (x.a.f i).to = (x.a.f i).to) ∧ (IntKind.i64 = IntKind.i64 ∧ (x.a.f i).most = (x.a.f i).most) ∧ True) ∧ Eq (α := Int) (↑x.a.n : Int) (↑x.a.n : Int) ∧ (↑x'.i : Int) = IntKind.i64.wrap ((↑x_1.i : Int) + (1 : Int)) ∧ (false = true → false = true) ∧ x.a.n = x.a.n ∧ (∀ (i : Nat), i < x.a.n → (IntKind.i64 = IntKind.i64 ∧ (x.a.f i).kind = (x.a.f i).kind) ∧ (x.a.f i).table = (x.a.f i).table ∧ (true = true ∧ (false = true → false = true) ∧ (x.a.f i).key = (x.a.f i).key) ∧ (true = true ∧ (false = true → false = true) ∧ (x.a.f i).value = (x.a.f i).value) ∧ (x.a.f i).has = (x.a.f i).has ∧ (true = true ∧ (false = true → false = true) ∧ (x.a.f i).old = (x.a.f i).old) ∧ (true = true ∧ (false = true → false = true) ∧ (x.a.f i).to = (x.a.f i).to) ∧ (IntKind.i64 = IntKind.i64 ∧ (x.a.f i).most = (x.a.f i).most) ∧ True) ∧ (false = true → false = true) ∧ x.b.n = x.b.n ∧ (∀ (i : Nat), i < x.b.n → (IntKind.i64 = IntKind.i64 ∧ (x.b.f i).kind = (x.b.f i).kind) ∧ (x.b.f i).table = (x.b.f i).table ∧ (true = true ∧ (false = true → false = true) ∧ (x.b.f i).key = (x.b.f i).key) ∧ (true = true ∧ (false = true → false = true) ∧ (x.b.f i).value = (x.b.f i).value) ∧ (x.b.f i).has = (x.b.f i).has ∧ (true = true ∧ (false = true → false = true) ∧ (x.b.f i).old = (x.b.f i).old) ∧ (true = true ∧ (false = true → false = true) ∧ (x.b.f i).to = (x.b.f i).to) ∧ (IntKind.i64 = IntKind.i64 ∧ (x.b.f i).most = (x.b.f i).most) ∧ True) ∧ True)) (FSame x.a x.b = false ∧ True)) (∀ (q : Bool), q = true → ((bif false then q else !q) = true → (bif false then q else !q) = true → (bif false then q else !q) = true) ∧ ((bif false then q else !q) = true → (bif false then q else !q) = true → (bif false then q else !q) = true) ∧ Eng.ask (bif false then q else !q) ((true = true → (bif false then q else !q) = true) ∧ (true = true → (bif false then q else !q) = true) ∧ (true = true → false = false → true = true) ∧ Eng.ask (bif false then true else !decide ((x.a.f (Int.toNat (↑x_1.i : Int))).to = (x.b.f (Int.toNat (↑x_1.i : Int))).to)) (FSame x.a x.b = false ∧ True) (True ∧ True ∧ True ∧ ∃ (x' : XIx), (x'.i ≤ x.a.n ∧ x.a.n = x.b.n ∧ ∀ (j : Nat), j < x'.i → FOpEq (x.a.f j) (x.b.f j)) ∧ x.a.n - x'.i < x.a.n - x_1.i ∧ 0 = 0 ∧ 0 = 0 ∧ 0 = 0 ∧ 0 = 0 ∧ 0 = 0 ∧ 0 = 0 ∧ (false = true → false = true) ∧ x.a.n = x.a.n ∧ (∀ (i : Nat), i < x.a.n → (IntKind.i64 = IntKind.i64 ∧ (x.a.f i).kind = (x.a.f i).kind) ∧ (x.a.f i).table = (x.a.f i).table ∧ (true = true ∧ (false = true → false = true) ∧ (x.a.f i).key = (x.a.f i).key) ∧ (true = true ∧ (false = true → false = true) ∧ (x.a.f i).value = (x.a.f i).value) ∧ (x.a.f i).has = (x.a.f i).has ∧ (true = true ∧ (false = true → false = true) ∧ (x.a.f i).old = (x.a.f i).old) ∧ (true = true ∧ (false = true → false = true) ∧ (x.a.f i).to = (x.a.f i).to) ∧ (IntKind.i64 = IntKind.i64 ∧ (x.a.f i).most = (x.a.f i).most) ∧ True) ∧ Eq (α := Int) (↑x.a.n : Int) (↑x.a.n : Int) ∧ (↑x'.i : Int) = IntKind.i64.wrap ((↑x_1.i : Int) + (1 : Int)) ∧ (false = true → false = true) ∧ x.a.n = x.a.n ∧ (∀ (i : Nat), i < x.a.n → (IntKind.i64 = IntKind.i64 ∧ (x.a.f i).kind = (x.a.f i).kind) ∧ (x.a.f i).table = (x.a.f i).table ∧ (true = true ∧ (false = true → false = true) ∧ (x.a.f i).key = (x.a.f i).key) ∧ (true = true ∧ (false = true → false = true) ∧ (x.a.f i).value = (x.a.f i).value) ∧ (x.a.f i).has = (x.a.f i).has ∧ (true = true ∧ (false = true → false = true) ∧ (x.a.f i).old = (x.a.f i).old) ∧ (true = true ∧ (false = true → false = true) ∧ (x.a.f i).to = (x.a.f i).to) ∧ (IntKind.i64 = IntKind.i64 ∧ (x.a.f i).most = (x.a.f i).most) ∧ True) ∧ (false = true → false = true) ∧ x.b.n = x.b.n ∧ (∀ (i : Nat), i < x.b.n → (IntKind.i64 = IntKind.i64 ∧ (x.b.f i).kind = (x.b.f i).kind) ∧ (x.b.f i).table = (x.b.f i).table ∧ (true = true ∧ (false = true → false = true) ∧ (x.b.f i).key = (x.b.f i).key) ∧ (true = true ∧ (false = true → false = true) ∧ (x.b.f i).value = (x.b.f i).value) ∧ (x.b.f i).has = (x.b.f i).has ∧ (true = true ∧ (false = true → false = true) ∧ (x.b.f i).old = (x.b.f i).old) ∧ (true = true ∧ (false = true → false = true) ∧ (x.b.f i).to = (x.b.f i).to) ∧ (IntKind.i64 = IntKind.i64 ∧ (x.b.f i).most = (x.b.f i).most) ∧ True) ∧ True)) (FSame x.a x.b = false ∧ True)))) (∀ (q : Bool), q = true → ((bif false then q else !q) = true → (bif false then q else !q) = true → (bif false then q else !q) = true) ∧ ((bif false then q else !q) = true → (bif false then q else !q) = true → (bif false then q else !q) = true) ∧ Eng.ask (bif false then q else !q) ((true = true → (bif false then q else !q) = true) ∧ (true = true → (bif false then q else !q) = true) ∧ (true = true → false = false → true = true) ∧ ∀ (q : Bool), (q = bif false then true else !decide ((x.a.f (Int.toNat (↑x_1.i : Int))).value = (x.b.f (Int.toNat (↑x_1.i : Int))).value)) → ((bif false then q else !q) = true → (bif false then q else !q) = true → (bif false then q else !q) = true) ∧ ((bif false then q else !q) = true → (bif false then q else !q) = true → (bif false then q else !q) = true) ∧ Eng.ask (bif false then q else !q) ((true = true → (bif false then q else !q) = true) ∧ (true = true → (bif false then q else !q) = true) ∧ (true = true → false = false → true = true) ∧ ∀ (q : Bool), (q = bif false then true else !decide ((x.a.f (Int.toNat (↑x_1.i : Int))).old = (x.b.f (Int.toNat (↑x_1.i : Int))).old)) → ((bif false then q else !q) = true → (bif false then q else !q) = true → (bif false then q else !q) = true) ∧ ((bif false then q else !q) = true → (bif false then q else !q) = true → (bif false then q else !q) = true) ∧ Eng.ask (bif false then q else !q) ((true = true → (bif false then q else !q) = true) ∧ (true = true → (bif false then q else !q) = true) ∧ (true = true → false = false → true = true) ∧ Eng.ask (bif false then true else !decide ((x.a.f (Int.toNat (↑x_1.i : Int))).to = (x.b.f (Int.toNat (↑x_1.i : Int))).to)) (FSame x.a x.b = false ∧ True) (True ∧ True ∧ True ∧ ∃ (x' : XIx), (x'.i ≤ x.a.n ∧ x.a.n = x.b.n ∧ ∀ (j : Nat), j < x'.i → FOpEq (x.a.f j) (x.b.f j)) ∧ x.a.n - x'.i < x.a.n - x_1.i ∧ 0 = 0 ∧ 0 = 0 ∧ 0 = 0 ∧ 0 = 0 ∧ 0 = 0 ∧ 0 = 0 ∧ (false = true → false = true) ∧ x.a.n = x.a.n ∧ (∀ (i : Nat), i < x.a.n → (IntKind.i64 = IntKind.i64 ∧ (x.a.f i).kind = (x.a.f i).kind) ∧ (x.a.f i).table = (x.a.f i).table ∧ (true = true ∧ (false = true → false = true) ∧ (x.a.f i).key = (x.a.f i).key) ∧ (true = true ∧ (false = true → false = true) ∧ (x.a.f i).value = (x.a.f i).value) ∧ (x.a.f i).has = (x.a.f i).has ∧ (true = true ∧ (false = true → false = true) ∧ (x.a.f i).old = (x.a.f i).old) ∧ (true = true ∧ (false = true → false = true) ∧ (x.a.f i).to = (x.a.f i).to) ∧ (IntKind.i64 = IntKind.i64 ∧ (x.a.f i).most = (x.a.f i).most) ∧ True) ∧ Eq (α := Int) (↑x.a.n : Int) (↑x.a.n : Int) ∧ (↑x'.i : Int) = IntKind.i64.wrap ((↑x_1.i : Int) + (1 : Int)) ∧ (false = true → false = true) ∧ x.a.n = x.a.n ∧ (∀ (i : Nat), i < x.a.n → (IntKind.i64 = IntKind.i64 ∧ (x.a.f i).kind = (x.a.f i).kind) ∧ (x.a.f i).table = (x.a.f i).table ∧ (true = true ∧ (false = true → false = true) ∧ (x.a.f i).key = (x.a.f i).key) ∧ (true = true ∧ (false = true → false = true) ∧ (x.a.f i).value = (x.a.f i).value) ∧ (x.a.f i).has = (x.a.f i).has ∧ (true = true ∧ (false = true → false = true) ∧ (x.a.f i).old = (x.a.f i).old) ∧ (true = true ∧ (false = true → false = true) ∧ (x.a.f i).to = (x.a.f i).to) ∧ (IntKind.i64 = IntKind.i64 ∧ (x.a.f i).most = (x.a.f i).most) ∧ True) ∧ (false = true → false = true) ∧ x.b.n = x.b.n ∧ (∀ (i : Nat), i < x.b.n → (IntKind.i64 = IntKind.i64 ∧ (x.b.f i).kind = (x.b.f i).kind) ∧ (x.b.f i).table = (x.b.f i).table ∧ (true = true ∧ (false = true → false = true) ∧ (x.b.f i).key = (x.b.f i).key) ∧ (true = true ∧ (false = true → false = true) ∧ (x.b.f i).value = (x.b.f i).value) ∧ (x.b.f i).has = (x.b.f i).has ∧ (true = true ∧ (false = true → false = true) ∧ (x.b.f i).old = (x.b.f i).old) ∧ (true = true ∧ (false = true → false = true) ∧ (x.b.f i).to = (x.b.f i).to) ∧ (IntKind.i64 = IntKind.i64 ∧ (x.b.f i).most = (x.b.f i).most) ∧ True) ∧ True)) (FSame x.a x.b = false ∧ True)) (∀ (q : Bool), q = true → ((bif false then q else !q) = true → (bif false then q else !q) = true → (bif false then q else !q) = true) ∧ ((bif false then q else !q) = true → (bif false then q else !q) = true → (bif false then q else !q) = true) ∧ Eng.ask (bif false then q else !q) ((true = true → (bif false then q else !q) = true) ∧ (true = true → (bif false then q else !q) = true) ∧ (true = true → false = false → true = true) ∧ Eng.ask (bif false then true else !decide ((x.a.f (Int.toNat (↑x_1.i : Int))).to = (x.b.f (Int.toNat (↑x_1.i : Int))).to)) (FSame x.a x.b = false ∧ True) (True ∧ True ∧ True ∧ ∃ (x' : XIx), (x'.i ≤ x.a.n ∧ x.a.n = x.b.n ∧ ∀ (j : Nat), j < x'.i → FOpEq (x.a.f j) (x.b.f j)) ∧ x.a.n - x'.i < x.a.n - x_1.i ∧ 0 = 0 ∧ 0 = 0 ∧ 0 = 0 ∧ 0 = 0 ∧ 0 = 0 ∧ 0 = 0 ∧ (false = true → false = true) ∧ x.a.n = x.a.n ∧ (∀ (i : Nat), i < x.a.n → (IntKind.i64 = IntKind.i64 ∧ (x.a.f i).kind = (x.a.f i).kind) ∧ (x.a.f i).table = (x.a.f i).table ∧ (true = true ∧ (false = true → false = true) ∧ (x.a.f i).key = (x.a.f i).key) ∧ (true = true ∧ (false = true → false = true) ∧ (x.a.f i).value = (x.a.f i).value) ∧ (x.a.f i).has = (x.a.f i).has ∧ (true = true ∧ (false = true → false = true) ∧ (x.a.f i).old = (x.a.f i).old) ∧ (true = true ∧ (false = true → false = true) ∧ (x.a.f i).to = (x.a.f i).to) ∧ (IntKind.i64 = IntKind.i64 ∧ (x.a.f i).most = (x.a.f i).most) ∧ True) ∧ Eq (α := Int) (↑x.a.n : Int) (↑x.a.n : Int) ∧ (↑x'.i : Int) = IntKind.i64.wrap ((↑x_1.i : Int) + (1 : Int)) ∧ (false = true → false = true) ∧ x.a.n = x.a.n ∧ (∀ (i : Nat), i < x.a.n → (IntKind.i64 = IntKind.i64 ∧ (x.a.f i).kind = (x.a.f i).kind) ∧ (x.a.f i).table = (x.a.f i).table ∧ (true = true ∧ (false = true → false = true) ∧ (x.a.f i).key = (x.a.f i).key) ∧ (true = true ∧ (false = true → false = true) ∧ (x.a.f i).value = (x.a.f i).value) ∧ (x.a.f i).has = (x.a.f i).has ∧ (true = true ∧ (false = true → false = true) ∧ (x.a.f i).old = (x.a.f i).old) ∧ (true = true ∧ (false = true → false = true) ∧ (x.a.f i).to = (x.a.f i).to) ∧ (IntKind.i64 = IntKind.i64 ∧ (x.a.f i).most = (x.a.f i).most) ∧ True) ∧ (false = true → false = true) ∧ x.b.n = x.b.n ∧ (∀ (i : Nat), i < x.b.n → (IntKind.i64 = IntKind.i64 ∧ (x.b.f i).kind = (x.b.f i).kind) ∧ (x.b.f i).table = (x.b.f i).table ∧ (true = true ∧ (false = true → false = true) ∧ (x.b.f i).key = (x.b.f i).key) ∧ (true = true ∧ (false = true → false = true) ∧ (x.b.f i).value = (x.b.f i).value) ∧ (x.b.f i).has = (x.b.f i).has ∧ (true = true ∧ (false = true → false = true) ∧ (x.b.f i).old = (x.b.f i).old) ∧ (true = true ∧ (false = true → false = true) ∧ (x.b.f i).to = (x.b.f i).to) ∧ (IntKind.i64 = IntKind.i64 ∧ (x.b.f i).most = (x.b.f i).most) ∧ True) ∧ True)) (FSame x.a x.b = false ∧ True))) (∀ (q : Bool), q = true → ((bif false then q else !q) = true → (bif false then q else !q) = true → (bif false then q else !q) = true) ∧ ((bif false then q else !q) = true → (bif false then q else !q) = true → (bif false then q else !q) = true) ∧ Eng.ask (bif false then q else !q) ((true = true → (bif false then q else !q) = true) ∧ (true = true → (bif false then q else !q) = true) ∧ (true = true → false = false → true = true) ∧ ∀ (q : Bool), (q = bif false then true else !decide ((x.a.f (Int.toNat (↑x_1.i : Int))).old = (x.b.f (Int.toNat (↑x_1.i : Int))).old)) → ((bif false then q else !q) = true → (bif false then q else !q) = true → (bif false then q else !q) = true) ∧ ((bif false then q else !q) = true → (bif false then q else !q) = true → (bif false then q else !q) = true) ∧ Eng.ask (bif false then q else !q) ((true = true → (bif false then q else !q) = true) ∧ (true = true → (bif false then q else !q) = true) ∧ (true = true → false = false → true = true) ∧ Eng.ask (bif false then true else !decide ((x.a.f (Int.toNat (↑x_1.i : Int))).to = (x.b.f (Int.toNat (↑x_1.i : Int))).to)) (FSame x.a x.b = false ∧ True) (True ∧ True ∧ True ∧ ∃ (x' : XIx), (x'.i ≤ x.a.n ∧ x.a.n = x.b.n ∧ ∀ (j : Nat), j < x'.i → FOpEq (x.a.f j) (x.b.f j)) ∧ x.a.n - x'.i < x.a.n - x_1.i ∧ 0 = 0 ∧ 0 = 0 ∧ 0 = 0 ∧ 0 = 0 ∧ 0 = 0 ∧ 0 = 0 ∧ (false = true → false = true) ∧ x.a.n = x.a.n ∧ (∀ (i : Nat), i < x.a.n → (IntKind.i64 = IntKind.i64 ∧ (x.a.f i).kind = (x.a.f i).kind) ∧ (x.a.f i).table = (x.a.f i).table ∧ (true = true ∧ (false = true → false = true) ∧ (x.a.f i).key = (x.a.f i).key) ∧ (true = true ∧ (false = true → false = true) ∧ (x.a.f i).value = (x.a.f i).value) ∧ (x.a.f i).has = (x.a.f i).has ∧ (true = true ∧ (false = true → false = true) ∧ (x.a.f i).old = (x.a.f i).old) ∧ (true = true ∧ (false = true → false = true) ∧ (x.a.f i).to = (x.a.f i).to) ∧ (IntKind.i64 = IntKind.i64 ∧ (x.a.f i).most = (x.a.f i).most) ∧ True) ∧ Eq (α := Int) (↑x.a.n : Int) (↑x.a.n : Int) ∧ (↑x'.i : Int) = IntKind.i64.wrap ((↑x_1.i : Int) + (1 : Int)) ∧ (false = true → false = true) ∧ x.a.n = x.a.n ∧ (∀ (i : Nat), i < x.a.n → (IntKind.i64 = IntKind.i64 ∧ (x.a.f i).kind = (x.a.f i).kind) ∧ (x.a.f i).table = (x.a.f i).table ∧ (true = true ∧ (false = true → false = true) ∧ (x.a.f i).key = (x.a.f i).key) ∧ (true = true ∧ (false = true → false = true) ∧ (x.a.f i).value = (x.a.f i).value) ∧ (x.a.f i).has = (x.a.f i).has ∧ (true = true ∧ (false = true → false = true) ∧ (x.a.f i).old = (x.a.f i).old) ∧ (true = true ∧ (false = true → false = true) ∧ (x.a.f i).to = (x.a.f i).to) ∧ (IntKind.i64 = IntKind.i64 ∧ (x.a.f i).most = (x.a.f i).most) ∧ True) ∧ (false = true → false = true) ∧ x.b.n = x.b.n ∧ (∀ (i : Nat), i < x.b.n → (IntKind.i64 = IntKind.i64 ∧ (x.b.f i).kind = (x.b.f i).kind) ∧ (x.b.f i).table = (x.b.f i).table ∧ (true = true ∧ (false = true → false = true) ∧ (x.b.f i).key = (x.b.f i).key) ∧ (true = true ∧ (false = true → false = true) ∧ (x.b.f i).value = (x.b.f i).value) ∧ (x.b.f i).has = (x.b.f i).has ∧ (true = true ∧ (false = true → false = true) ∧ (x.b.f i).old = (x.b.f i).old) ∧ (true = true ∧ (false = true → false = true) ∧ (x.b.f i).to = (x.b.f i).to) ∧ (IntKind.i64 = IntKind.i64 ∧ (x.b.f i).most = (x.b.f i).most) ∧ True) ∧ True)) (FSame x.a x.b = false ∧ True)) (∀ (q : Bool), q = true → ((bif false then q else !q) = true → (bif false then q else !q) = true → (bif false then q else !q) = true) ∧ ((bif false then q else !q) = true → (bif false then q else !q) = true → (bif false then q else !q) = true) ∧ Eng.ask (bif false then q else !q) ((true = true → (bif false then q else !q) = true) ∧ (true = true → (bif false then q else !q) = true) ∧ (true = true → false = false → true = true) ∧ Eng.ask (bif false then true else !decide ((x.a.f (Int.toNat (↑x_1.i : Int))).to = (x.b.f (Int.toNat (↑x_1.i : Int))).to)) (FSame x.a x.b = false ∧ True) (True ∧ True ∧ True ∧ ∃ (x' : XIx), (x'.i ≤ x.a.n ∧ x.a.n = x.b.n ∧ ∀ (j : Nat), j < x'.i → FOpEq (x.a.f j) (x.b.f j)) ∧ x.a.n - x'.i < x.a.n - x_1.i ∧ 0 = 0 ∧ 0 = 0 ∧ 0 = 0 ∧ 0 = 0 ∧ 0 = 0 ∧ 0 = 0 ∧ (false = true → false = true) ∧ x.a.n = x.a.n ∧ (∀ (i : Nat), i < x.a.n → (IntKind.i64 = IntKind.i64 ∧ (x.a.f i).kind = (x.a.f i).kind) ∧ (x.a.f i).table = (x.a.f i).table ∧ (true = true ∧ (false = true → false = true) ∧ (x.a.f i).key = (x.a.f i).key) ∧ (true = true ∧ (false = true → false = true) ∧ (x.a.f i).value = (x.a.f i).value) ∧ (x.a.f i).has = (x.a.f i).has ∧ (true = true ∧ (false = true → false = true) ∧ (x.a.f i).old = (x.a.f i).old) ∧ (true = true ∧ (false = true → false = true) ∧ (x.a.f i).to = (x.a.f i).to) ∧ (IntKind.i64 = IntKind.i64 ∧ (x.a.f i).most = (x.a.f i).most) ∧ True) ∧ Eq (α := Int) (↑x.a.n : Int) (↑x.a.n : Int) ∧ (↑x'.i : Int) = IntKind.i64.wrap ((↑x_1.i : Int) + (1 : Int)) ∧ (false = true → false = true) ∧ x.a.n = x.a.n ∧ (∀ (i : Nat), i < x.a.n → (IntKind.i64 = IntKind.i64 ∧ (x.a.f i).kind = (x.a.f i).kind) ∧ (x.a.f i).table = (x.a.f i).table ∧ (true = true ∧ (false = true → false = true) ∧ (x.a.f i).key = (x.a.f i).key) ∧ (true = true ∧ (false = true → false = true) ∧ (x.a.f i).value = (x.a.f i).value) ∧ (x.a.f i).has = (x.a.f i).has ∧ (true = true ∧ (false = true → false = true) ∧ (x.a.f i).old = (x.a.f i).old) ∧ (true = true ∧ (false = true → false = true) ∧ (x.a.f i).to = (x.a.f i).to) ∧ (IntKind.i64 = IntKind.i64 ∧ (x.a.f i).most = (x.a.f i).most) ∧ True) ∧ (false = true → false = true) ∧ x.b.n = x.b.n ∧ (∀ (i : Nat), i < x.b.n → (IntKind.i64 = IntKind.i64 ∧ (x.b.f i).kind = (x.b.f i).kind) ∧ (x.b.f i).table = (x.b.f i).table ∧ (true = true ∧ (false = true → false = true) ∧ (x.b.f i).key = (x.b.f i).key) ∧ (true = true ∧ (false = true → false = true) ∧ (x.b.f i).value = (x.b.f i).value) ∧ (x.b.f i).has = (x.b.f i).has ∧ (true = true ∧ (false = true → false = true) ∧ (x.b.f i).old = (x.b.f i).old) ∧ (true = true ∧ (false = true → false = true) ∧ (x.b.f i).to = (x.b.f i).to) ∧ (IntKind.i64 = IntKind.i64 ∧ (x.b.f i).most = (x.b.f i).most) ∧ True) ∧ True)) (FSame x.a x.b = false ∧ True))))) (FSame x.a x.b = true ∧ True))
theorem eq_calls_Same : vc_calls_Same = nf_calls_Same := by kernel_rfl
theorem pf_calls_Same : nf_calls_Same := by
 intro x0
 intro ⟨h1, h2⟩
 refine ask_p (bp_not bp_dec) ?_ ?_
 ·intro h3
  refine ⟨by (refine FSame_no fun hh => ?_; have e1 := hh.1; omega), ?_⟩
  trivial
 intro h3
 refine ⟨?_, ?_⟩
 ·refine ⟨⟨(((0 : Int) : Int)).toNat⟩, ?_⟩
  try dsimp only
  refine ⟨?_, ?_⟩
  ·refine ⟨by omega, by omega, ?_⟩
   intro j4
   intro h5
   exfalso; omega
  refine ⟨by rfl, by rfl, by rfl, by rfl, by rfl, by rfl, by (simp; done), by rfl, by (simp; done), by rfl, by decide, by (simp; done), ?_⟩
  refine ⟨by rfl, by (simp; done), by (simp; done), by rfl, by (simp; done), ?_⟩
  trivial
 refine ⟨by trivial, ?_⟩
 intro x4
 intro ⟨h5, ⟨h6, h7⟩⟩
 refine ask_p bp_dec ?_ ?_
 ·intro h8
  refine ⟨by omega, by omega, by omega, by omega, ?_⟩
  intro q9 hq9; subst hq9
  refine ⟨by (simp; done), by (simp; done), by (simp; done), by (simp; done), by (simp; done), ?_⟩
  intro q10 hq10; subst hq10
  refine ⟨?_, ?_⟩
  ·intro h11
   intro h12
   omega
  refine ⟨?_, ?_⟩
  ·intro h11
   intro h12
   omega
  refine ⟨?_, ?_⟩
  ·intro h11
   intro h12
   omega
  refine ⟨?_, ?_⟩
  ·intro h11
   intro h12
   omega
  refine ⟨by (simp; done), ?_⟩
  intro q11 hq11; subst hq11
  refine ⟨?_, ?_⟩
  ·intro h12
   intro h13
   omega
  refine ⟨?_, ?_⟩
  ·intro h12
   intro h13
   omega
  refine ⟨?_, ?_⟩
  ·intro h12
   intro h13
   omega
  refine ⟨?_, ?_⟩
  ·intro h12
   intro h13
   omega
  refine ⟨by (simp; done), ?_⟩
  intro q12 hq12; subst hq12
  refine ⟨?_, ?_⟩
  ·intro h13
   intro h14
   omega
  refine ⟨?_, ?_⟩
  ·intro h13
   intro h14
   omega
  refine ask_p (bp_cond bp_false (bp_or (bp_or (bp_or (bp_not bp_dec) (bp_not bp_dec)) (bp_not bp_id)) (bp_not bp_dec)) (bp_not (bp_or (bp_or (bp_or (bp_not bp_dec) (bp_not bp_dec)) (bp_not bp_id)) (bp_not bp_dec)))) ?_ ?_
  ·intro h13
   refine ⟨?_, ?_⟩
   ·intro h14
    grind
   refine ⟨?_, ?_⟩
   ·intro h14
    grind
   refine ⟨by (simp; done), ?_⟩
   intro q14 hq14; subst hq14
   refine ⟨by (simp; done), by (simp; done), ?_⟩
   refine ask_p (bp_cond bp_false (bp_or bp_false (bp_not bp_dec)) (bp_not (bp_or bp_false (bp_not bp_dec)))) ?_ ?_
   ·intro h15
    refine ⟨?_, ?_⟩
    ·intro h16
     grind
    refine ⟨?_, ?_⟩
    ·intro h16
     grind
    refine ⟨by (simp; done), ?_⟩
    intro q16 hq16; subst hq16
    refine ⟨by (simp; done), by (simp; done), ?_⟩
    refine ask_p (bp_cond bp_false (bp_or bp_false (bp_not bp_dec)) (bp_not (bp_or bp_false (bp_not bp_dec)))) ?_ ?_
    ·intro h17
     refine ⟨?_, ?_⟩
     ·intro h18
      grind
     refine ⟨?_, ?_⟩
     ·intro h18
      grind
     refine ⟨by (simp; done), ?_⟩
     intro q18 hq18; subst hq18
     refine ⟨by (simp; done), by (simp; done), ?_⟩
     refine ask_p (bp_cond bp_false (bp_or bp_false (bp_not bp_dec)) (bp_not (bp_or bp_false (bp_not bp_dec)))) ?_ ?_
     ·intro h19
      refine ⟨?_, ?_⟩
      ·intro h20
       grind
      refine ⟨?_, ?_⟩
      ·intro h20
       grind
      refine ⟨by (simp; done), ?_⟩
      refine ask_p (bp_or bp_false (bp_not bp_dec)) ?_ ?_
      ·intro h20
       refine ⟨by (refine FSame_no fun hh => ?_; have e2 := hh.2 x4.i (by omega); simp only [Int.toNat_natCast] at *; simp_all [FOpEq]), ?_⟩
       trivial
      intro h20
      refine ⟨by trivial, by trivial, by trivial, ?_⟩
      refine ⟨⟨((IntKind.i64.wrap ((↑x4.i : Int) + (1 : Int)) : Int)).toNat⟩, ?_⟩
      try dsimp only
      refine ⟨?_, ?_⟩
      ·refine ⟨by (rw [wrap_i64]; omega), by omega, ?_⟩
       intro j21
       intro h22
       exact lt_wrap_succ (P := fun j => FOpEq (x0.a.f j) (x0.b.f j)) (by assumption) (by omega) (by assumption) (by simp only [Int.toNat_natCast] at *; simp_all [FOpEq])
      refine ⟨by (rw [wrap_i64]; omega), by rfl, by rfl, by rfl, by rfl, by rfl, by rfl, by (simp; done), by rfl, by (simp; done), by rfl, by (rw [wrap_i64]; omega), ?_⟩
      refine ⟨by (simp; done), by rfl, by (simp; done), by (simp; done), by rfl, by (simp; done), ?_⟩
      trivial
     intro h19
     refine ⟨by (refine FSame_no fun hh => ?_; have e2 := hh.2 x4.i (by omega); simp only [Int.toNat_natCast] at *; simp_all [FOpEq]), ?_⟩
     trivial
    intro h17
    intro q18 hq18; subst hq18
    refine ⟨by (simp; done), by (simp; done), ?_⟩
    refine ask_p (bp_or bp_false (bp_not bp_true)) ?_ ?_
    ·intro h19
     refine ⟨?_, ?_⟩
     ·intro h20
      grind
     refine ⟨?_, ?_⟩
     ·intro h20
      grind
     refine ⟨by (simp; done), ?_⟩
     refine ask_p (bp_or bp_false (bp_not bp_dec)) ?_ ?_
     ·intro h20
      refine ⟨by (refine FSame_no fun hh => ?_; have e2 := hh.2 x4.i (by omega); simp only [Int.toNat_natCast] at *; simp_all [FOpEq]), ?_⟩
      trivial
     intro h20
     refine ⟨by trivial, by trivial, by trivial, ?_⟩
     refine ⟨⟨((IntKind.i64.wrap ((↑x4.i : Int) + (1 : Int)) : Int)).toNat⟩, ?_⟩
     try dsimp only
     refine ⟨?_, ?_⟩
     ·refine ⟨by (rw [wrap_i64]; omega), by omega, ?_⟩
      intro j21
      intro h22
      exact lt_wrap_succ (P := fun j => FOpEq (x0.a.f j) (x0.b.f j)) (by assumption) (by omega) (by assumption) (by simp only [Int.toNat_natCast] at *; simp_all [FOpEq])
     refine ⟨by (rw [wrap_i64]; omega), by rfl, by rfl, by rfl, by rfl, by rfl, by rfl, by (simp; done), by rfl, by (simp; done), by rfl, by (rw [wrap_i64]; omega), ?_⟩
     refine ⟨by (simp; done), by rfl, by (simp; done), by (simp; done), by rfl, by (simp; done), ?_⟩
     trivial
    intro h19
    refine ⟨by (refine FSame_no fun hh => ?_; have e2 := hh.2 x4.i (by omega); simp only [Int.toNat_natCast] at *; simp_all [FOpEq]), ?_⟩
    trivial
   intro h15
   intro q16 hq16; subst hq16
   refine ⟨by (simp; done), by (simp; done), ?_⟩
   refine ask_p (bp_or bp_false (bp_not bp_true)) ?_ ?_
   ·intro h17
    refine ⟨?_, ?_⟩
    ·intro h18
     grind
    refine ⟨?_, ?_⟩
    ·intro h18
     grind
    refine ⟨by (simp; done), ?_⟩
    intro q18 hq18; subst hq18
    refine ⟨by (simp; done), by (simp; done), ?_⟩
    refine ask_p (bp_cond bp_false (bp_or bp_false (bp_not bp_dec)) (bp_not (bp_or bp_false (bp_not bp_dec)))) ?_ ?_
    ·intro h19
     refine ⟨?_, ?_⟩
     ·intro h20
      grind
     refine ⟨?_, ?_⟩
     ·intro h20
      grind
     refine ⟨by (simp; done), ?_⟩
     refine ask_p (bp_or bp_false (bp_not bp_dec)) ?_ ?_
     ·intro h20
      refine ⟨by (refine FSame_no fun hh => ?_; have e2 := hh.2 x4.i (by omega); simp only [Int.toNat_natCast] at *; simp_all [FOpEq]), ?_⟩
      trivial
     intro h20
     refine ⟨by trivial, by trivial, by trivial, ?_⟩
     refine ⟨⟨((IntKind.i64.wrap ((↑x4.i : Int) + (1 : Int)) : Int)).toNat⟩, ?_⟩
     try dsimp only
     refine ⟨?_, ?_⟩
     ·refine ⟨by (rw [wrap_i64]; omega), by omega, ?_⟩
      intro j21
      intro h22
      exact lt_wrap_succ (P := fun j => FOpEq (x0.a.f j) (x0.b.f j)) (by assumption) (by omega) (by assumption) (by simp only [Int.toNat_natCast] at *; simp_all [FOpEq])
     refine ⟨by (rw [wrap_i64]; omega), by rfl, by rfl, by rfl, by rfl, by rfl, by rfl, by (simp; done), by rfl, by (simp; done), by rfl, by (rw [wrap_i64]; omega), ?_⟩
     refine ⟨by (simp; done), by rfl, by (simp; done), by (simp; done), by rfl, by (simp; done), ?_⟩
     trivial
    intro h19
    refine ⟨by (refine FSame_no fun hh => ?_; have e2 := hh.2 x4.i (by omega); simp only [Int.toNat_natCast] at *; simp_all [FOpEq]), ?_⟩
    trivial
   intro h17
   intro q18 hq18; subst hq18
   refine ⟨by (simp; done), by (simp; done), ?_⟩
   refine ask_p (bp_or bp_false (bp_not bp_true)) ?_ ?_
   ·intro h19
    refine ⟨?_, ?_⟩
    ·intro h20
     grind
    refine ⟨?_, ?_⟩
    ·intro h20
     grind
    refine ⟨by (simp; done), ?_⟩
    refine ask_p (bp_or bp_false (bp_not bp_dec)) ?_ ?_
    ·intro h20
     refine ⟨by (refine FSame_no fun hh => ?_; have e2 := hh.2 x4.i (by omega); simp only [Int.toNat_natCast] at *; simp_all [FOpEq]), ?_⟩
     trivial
    intro h20
    refine ⟨by trivial, by trivial, by trivial, ?_⟩
    refine ⟨⟨((IntKind.i64.wrap ((↑x4.i : Int) + (1 : Int)) : Int)).toNat⟩, ?_⟩
    try dsimp only
    refine ⟨?_, ?_⟩
    ·refine ⟨by (rw [wrap_i64]; omega), by omega, ?_⟩
     intro j21
     intro h22
     exact lt_wrap_succ (P := fun j => FOpEq (x0.a.f j) (x0.b.f j)) (by assumption) (by omega) (by assumption) (by simp only [Int.toNat_natCast] at *; simp_all [FOpEq])
    refine ⟨by (rw [wrap_i64]; omega), by rfl, by rfl, by rfl, by rfl, by rfl, by rfl, by (simp; done), by rfl, by (simp; done), by rfl, by (rw [wrap_i64]; omega), ?_⟩
    refine ⟨by (simp; done), by rfl, by (simp; done), by (simp; done), by rfl, by (simp; done), ?_⟩
    trivial
   intro h19
   refine ⟨by (refine FSame_no fun hh => ?_; have e2 := hh.2 x4.i (by omega); simp only [Int.toNat_natCast] at *; simp_all [FOpEq]), ?_⟩
   trivial
  intro h13
  intro q14 hq14; subst hq14
  refine ⟨by (simp; done), by (simp; done), ?_⟩
  refine ask_p (bp_or bp_false (bp_not bp_true)) ?_ ?_
  ·intro h15
   refine ⟨?_, ?_⟩
   ·intro h16
    grind
   refine ⟨?_, ?_⟩
   ·intro h16
    grind
   refine ⟨by (simp; done), ?_⟩
   intro q16 hq16; subst hq16
   refine ⟨by (simp; done), by (simp; done), ?_⟩
   refine ask_p (bp_cond bp_false (bp_or bp_false (bp_not bp_dec)) (bp_not (bp_or bp_false (bp_not bp_dec)))) ?_ ?_
   ·intro h17
    refine ⟨?_, ?_⟩
    ·intro h18
     grind
    refine ⟨?_, ?_⟩
    ·intro h18
     grind
    refine ⟨by (simp; done), ?_⟩
    intro q18 hq18; subst hq18
    refine ⟨by (simp; done), by (simp; done), ?_⟩
    refine ask_p (bp_cond bp_false (bp_or bp_false (bp_not bp_dec)) (bp_not (bp_or bp_false (bp_not bp_dec)))) ?_ ?_
    ·intro h19
     refine ⟨?_, ?_⟩
     ·intro h20
      grind
     refine ⟨?_, ?_⟩
     ·intro h20
      grind
     refine ⟨by (simp; done), ?_⟩
     refine ask_p (bp_or bp_false (bp_not bp_dec)) ?_ ?_
     ·intro h20
      refine ⟨by (refine FSame_no fun hh => ?_; have e2 := hh.2 x4.i (by omega); simp only [Int.toNat_natCast] at *; simp_all [FOpEq]), ?_⟩
      trivial
     intro h20
     refine ⟨by trivial, by trivial, by trivial, ?_⟩
     refine ⟨⟨((IntKind.i64.wrap ((↑x4.i : Int) + (1 : Int)) : Int)).toNat⟩, ?_⟩
     try dsimp only
     refine ⟨?_, ?_⟩
     ·refine ⟨by (rw [wrap_i64]; omega), by omega, ?_⟩
      intro j21
      intro h22
      exact lt_wrap_succ (P := fun j => FOpEq (x0.a.f j) (x0.b.f j)) (by assumption) (by omega) (by assumption) (by simp only [Int.toNat_natCast] at *; simp_all [FOpEq])
     refine ⟨by (rw [wrap_i64]; omega), by rfl, by rfl, by rfl, by rfl, by rfl, by rfl, by (simp; done), by rfl, by (simp; done), by rfl, by (rw [wrap_i64]; omega), ?_⟩
     refine ⟨by (simp; done), by rfl, by (simp; done), by (simp; done), by rfl, by (simp; done), ?_⟩
     trivial
    intro h19
    refine ⟨by (refine FSame_no fun hh => ?_; have e2 := hh.2 x4.i (by omega); simp only [Int.toNat_natCast] at *; simp_all [FOpEq]), ?_⟩
    trivial
   intro h17
   intro q18 hq18; subst hq18
   refine ⟨by (simp; done), by (simp; done), ?_⟩
   refine ask_p (bp_or bp_false (bp_not bp_true)) ?_ ?_
   ·intro h19
    refine ⟨?_, ?_⟩
    ·intro h20
     grind
    refine ⟨?_, ?_⟩
    ·intro h20
     grind
    refine ⟨by (simp; done), ?_⟩
    refine ask_p (bp_or bp_false (bp_not bp_dec)) ?_ ?_
    ·intro h20
     refine ⟨by (refine FSame_no fun hh => ?_; have e2 := hh.2 x4.i (by omega); simp only [Int.toNat_natCast] at *; simp_all [FOpEq]), ?_⟩
     trivial
    intro h20
    refine ⟨by trivial, by trivial, by trivial, ?_⟩
    refine ⟨⟨((IntKind.i64.wrap ((↑x4.i : Int) + (1 : Int)) : Int)).toNat⟩, ?_⟩
    try dsimp only
    refine ⟨?_, ?_⟩
    ·refine ⟨by (rw [wrap_i64]; omega), by omega, ?_⟩
     intro j21
     intro h22
     exact lt_wrap_succ (P := fun j => FOpEq (x0.a.f j) (x0.b.f j)) (by assumption) (by omega) (by assumption) (by simp only [Int.toNat_natCast] at *; simp_all [FOpEq])
    refine ⟨by (rw [wrap_i64]; omega), by rfl, by rfl, by rfl, by rfl, by rfl, by rfl, by (simp; done), by rfl, by (simp; done), by rfl, by (rw [wrap_i64]; omega), ?_⟩
    refine ⟨by (simp; done), by rfl, by (simp; done), by (simp; done), by rfl, by (simp; done), ?_⟩
    trivial
   intro h19
   refine ⟨by (refine FSame_no fun hh => ?_; have e2 := hh.2 x4.i (by omega); simp only [Int.toNat_natCast] at *; simp_all [FOpEq]), ?_⟩
   trivial
  intro h15
  intro q16 hq16; subst hq16
  refine ⟨by (simp; done), by (simp; done), ?_⟩
  refine ask_p (bp_or bp_false (bp_not bp_true)) ?_ ?_
  ·intro h17
   refine ⟨?_, ?_⟩
   ·intro h18
    grind
   refine ⟨?_, ?_⟩
   ·intro h18
    grind
   refine ⟨by (simp; done), ?_⟩
   intro q18 hq18; subst hq18
   refine ⟨by (simp; done), by (simp; done), ?_⟩
   refine ask_p (bp_cond bp_false (bp_or bp_false (bp_not bp_dec)) (bp_not (bp_or bp_false (bp_not bp_dec)))) ?_ ?_
   ·intro h19
    refine ⟨?_, ?_⟩
    ·intro h20
     grind
    refine ⟨?_, ?_⟩
    ·intro h20
     grind
    refine ⟨by (simp; done), ?_⟩
    refine ask_p (bp_or bp_false (bp_not bp_dec)) ?_ ?_
    ·intro h20
     refine ⟨by (refine FSame_no fun hh => ?_; have e2 := hh.2 x4.i (by omega); simp only [Int.toNat_natCast] at *; simp_all [FOpEq]), ?_⟩
     trivial
    intro h20
    refine ⟨by trivial, by trivial, by trivial, ?_⟩
    refine ⟨⟨((IntKind.i64.wrap ((↑x4.i : Int) + (1 : Int)) : Int)).toNat⟩, ?_⟩
    try dsimp only
    refine ⟨?_, ?_⟩
    ·refine ⟨by (rw [wrap_i64]; omega), by omega, ?_⟩
     intro j21
     intro h22
     exact lt_wrap_succ (P := fun j => FOpEq (x0.a.f j) (x0.b.f j)) (by assumption) (by omega) (by assumption) (by simp only [Int.toNat_natCast] at *; simp_all [FOpEq])
    refine ⟨by (rw [wrap_i64]; omega), by rfl, by rfl, by rfl, by rfl, by rfl, by rfl, by (simp; done), by rfl, by (simp; done), by rfl, by (rw [wrap_i64]; omega), ?_⟩
    refine ⟨by (simp; done), by rfl, by (simp; done), by (simp; done), by rfl, by (simp; done), ?_⟩
    trivial
   intro h19
   refine ⟨by (refine FSame_no fun hh => ?_; have e2 := hh.2 x4.i (by omega); simp only [Int.toNat_natCast] at *; simp_all [FOpEq]), ?_⟩
   trivial
  intro h17
  intro q18 hq18; subst hq18
  refine ⟨by (simp; done), by (simp; done), ?_⟩
  refine ask_p (bp_or bp_false (bp_not bp_true)) ?_ ?_
  ·intro h19
   refine ⟨?_, ?_⟩
   ·intro h20
    grind
   refine ⟨?_, ?_⟩
   ·intro h20
    grind
   refine ⟨by (simp; done), ?_⟩
   refine ask_p (bp_or bp_false (bp_not bp_dec)) ?_ ?_
   ·intro h20
    refine ⟨by (refine FSame_no fun hh => ?_; have e2 := hh.2 x4.i (by omega); simp only [Int.toNat_natCast] at *; simp_all [FOpEq]), ?_⟩
    trivial
   intro h20
   refine ⟨by trivial, by trivial, by trivial, ?_⟩
   refine ⟨⟨((IntKind.i64.wrap ((↑x4.i : Int) + (1 : Int)) : Int)).toNat⟩, ?_⟩
   try dsimp only
   refine ⟨?_, ?_⟩
   ·refine ⟨by (rw [wrap_i64]; omega), by omega, ?_⟩
    intro j21
    intro h22
    exact lt_wrap_succ (P := fun j => FOpEq (x0.a.f j) (x0.b.f j)) (by assumption) (by omega) (by assumption) (by simp only [Int.toNat_natCast] at *; simp_all [FOpEq])
   refine ⟨by (rw [wrap_i64]; omega), by rfl, by rfl, by rfl, by rfl, by rfl, by rfl, by (simp; done), by rfl, by (simp; done), by rfl, by (rw [wrap_i64]; omega), ?_⟩
   refine ⟨by (simp; done), by rfl, by (simp; done), by (simp; done), by rfl, by (simp; done), ?_⟩
   trivial
  intro h19
  refine ⟨by (refine FSame_no fun hh => ?_; have e2 := hh.2 x4.i (by omega); simp only [Int.toNat_natCast] at *; simp_all [FOpEq]), ?_⟩
  trivial
 intro h8
 refine ⟨by exact FSame_yes ⟨by omega, fun j hj => h7 j (by omega)⟩, ?_⟩
 trivial
def nf_ref_Same : Prop :=
 ∀ (x : XCC), x.a.n < 1099511627776 ∧ x.b.n < 1099511627776 → Eng.ask (!decide (Eq (α := Int) (↑x.a.n : Int) (↑x.b.n : Int))) (FSame x.a x.b = false ∧ True) ((∃ (x_1 : XIx), (x_1.i ≤ x.a.n ∧ x.a.n = x.b.n ∧ ∀ (j : Nat), j < x_1.i → FOpEq (x.a.f j) (x.b.f j)) ∧ 0 = 0 ∧ 0 = 0 ∧ 0 = 0 ∧ 0 = 0 ∧ 0 = 0 ∧ 0 = 0 ∧ (↑x_1.i : Int) = (0 : Int) ∧ (false = true → false = true) ∧ x.a.n = x.a.n ∧ (∀ (i : Nat), i < x.a.n → (IntKind.i64 = IntKind.i64 ∧ (x.a.f i).kind = (x.a.f i).kind) ∧ (x.a.f i).table = (x.a.f i).table ∧ (true = true ∧ (false = true → false = true) ∧ (x.a.f i).key = (x.a.f i).key) ∧ (true = true ∧ (false = true → false = true) ∧ (x.a.f i).value = (x.a.f i).value) ∧ (x.a.f i).has = (x.a.f i).has ∧ (true = true ∧ (false = true → false = true) ∧ (x.a.f i).old = (x.a.f i).old) ∧ (true = true ∧ (false = true → false = true) ∧ (x.a.f i).to = (x.a.f i).to) ∧ (IntKind.i64 = IntKind.i64 ∧ (x.a.f i).most = (x.a.f i).most) ∧ True) ∧ (false = true → false = true) ∧ x.b.n = x.b.n ∧ (∀ (i : Nat), i < x.b.n → (IntKind.i64 = IntKind.i64 ∧ (x.b.f i).kind = (x.b.f i).kind) ∧ (x.b.f i).table = (x.b.f i).table ∧ (true = true ∧ (false = true → false = true) ∧ (x.b.f i).key = (x.b.f i).key) ∧ (true = true ∧ (false = true → false = true) ∧ (x.b.f i).value = (x.b.f i).value) ∧ (x.b.f i).has = (x.b.f i).has ∧ (true = true ∧ (false = true → false = true) ∧ (x.b.f i).old = (x.b.f i).old) ∧ (true = true ∧ (false = true → false = true) ∧ (x.b.f i).to = (x.b.f i).to) ∧ (IntKind.i64 = IntKind.i64 ∧ (x.b.f i).most = (x.b.f i).most) ∧ True) ∧ True) ∧ True ∧ ∀ (x_1 : XIx), (x_1.i ≤ x.a.n ∧ x.a.n = x.b.n ∧ ∀ (j : Nat), j < x_1.i → FOpEq (x.a.f j) (x.b.f j)) → Eng.ask (decide (LT.lt (α := Int) (↑x_1.i : Int) (↑x.a.n : Int))) ((0 : Int) ≤ (↑x_1.i : Int) ∧ Int.toNat (↑x_1.i : Int) < x.a.n ∧ (0 : Int) ≤ (↑x_1.i : Int) ∧ Int.toNat (↑x_1.i : Int) < x.b.n ∧ ∀ (q : Bool), q = decide ((x.a.f (Int.toNat (↑x_1.i : Int))).kind = (x.b.f (Int.toNat (↑x_1.i : Int))).kind) → (q = true → q = true → q = true) ∧ (q = true → q = true → q = true) ∧ (q = true → q = true → q = true) ∧ (q = true → q = true → q = true) ∧ (true = true → q = true → q = true) ∧ ∀ (q_1 : Bool), (q_1 = bif q then decide ((x.a.f (Int.toNat (↑x_1.i : Int))).table = (x.b.f (Int.toNat (↑x_1.i : Int))).table) else false) → (q_1 = true → q_1 = true → q_1 = true) ∧ (q_1 = true → q_1 = true → q_1 = true) ∧ (q_1 = true → q_1 = true → q_1 = true) ∧ (q_1 = true → q_1 = true → q_1 = true) ∧ (q_1 = true → q_1 = true → q_1 = true) ∧ (q_1 = true → q_1 = true → q_1 = true) ∧ (true = true → q_1 = true → q_1 = true) ∧ ∀ (q : Bool), (q = bif q_1 then decide ((x.a.f (Int.toNat (↑x_1.i : Int))).key = (x.b.f (Int.toNat (↑x_1.i : Int))).key) else false) → (q = true → q = true → q = true) ∧ (q = true → q = true → q = true) ∧ (q = true → q = true → q = true) ∧ (q = true → q = true → q = true) ∧ (q = true → q = true → q = true) ∧ (q = true → q = true → q = true) ∧ (true = true → q = true → q = true) ∧ ∀ (q_2 : Bool), (q_2 = bif q then decide ((x.a.f (Int.toNat (↑x_1.i : Int))).value = (x.b.f (Int.toNat (↑x_1.i : Int))).value) else false) → (q_2 = true → q_2 = true → q_2 = true) ∧ (q_2 = true → q_2 = true → q_2 = true) ∧ (q_2 = true → q_2 = true → q_2 = true) ∧ (q_2 = true → q_2 = true → q_2 = true) ∧ (true = true → q_2 = true → q_2 = true) ∧ ∀ (q : Bool), (q = bif q_2 then (x.a.f (Int.toNat (↑x_1.i : Int))).has == (x.b.f (Int.toNat (↑x_1.i : Int))).has else false) → (q = true → q = true → q = true) ∧ (q = true → q = true → q = true) ∧ (q = true → q = true → q = true) ∧ (q = true → q = true → q = true) ∧ (q = true → q = true → q = true) ∧ (q = true → q = true → q = true) ∧ (true = true → q = true → q = true) ∧ ∀ (q_3 : Bool), (q_3 = bif q then decide ((x.a.f (Int.toNat (↑x_1.i : Int))).old = (x.b.f (Int.toNat (↑x_1.i : Int))).old) else false) → (q_3 = true → q_3 = true → q_3 = true) ∧ (q_3 = true → q_3 = true → q_3 = true) ∧ (q_3 = true → q_3 = true → q_3 = true) ∧ (q_3 = true → q_3 = true → q_3 = true) ∧ (q_3 = true → q_3 = true → q_3 = true) ∧ (q_3 = true → q_3 = true → q_3 = true) ∧ (true = true → q_3 = true → q_3 = true) ∧ ∀ (q : Bool), (q = bif q_3 then decide ((x.a.f (Int.toNat (↑x_1.i : Int))).to = (x.b.f (Int.toNat (↑x_1.i : Int))).to) else false) → (q = true → q = true → q = true) ∧ (q = true → q = true → q = true) ∧ (q = true → q = true → q = true) ∧ (q = true → q = true → q = true) ∧ (true = true → q = true → q = true) ∧ Eng.ask (!bif q then decide ((x.a.f (Int.toNat (↑x_1.i : Int))).most = (x.b.f (Int.toNat (↑x_1.i : Int))).most) else false) (FSame x.a x.b = false ∧ True) (True ∧ True ∧ True ∧ ∃ (x' : XIx), (x'.i ≤ x.a.n ∧ x.a.n = x.b.n ∧ ∀ (j : Nat), j < x'.i → FOpEq (x.a.f j) (x.b.f j)) ∧ x.a.n - x'.i < x.a.n - x_1.i ∧ 0 = 0 ∧ 0 = 0 ∧ 0 = 0 ∧ 0 = 0 ∧ 0 = 0 ∧ 0 = 0 ∧ (↑x'.i : Int) = IntKind.i64.wrap ((↑x_1.i : Int) + (1 : Int)) ∧ (false = true → false = true) ∧ x.a.n = x.a.n ∧ (∀ (i : Nat), i < x.a.n → (IntKind.i64 = IntKind.i64 ∧ (x.a.f i).kind = (x.a.f i).kind) ∧ (x.a.f i).table = (x.a.f i).table ∧ (true = true ∧ (false = true → false = true) ∧ (x.a.f i).key = (x.a.f i).key) ∧ (true = true ∧ (false = true → false = true) ∧ (x.a.f i).value = (x.a.f i).value) ∧ (x.a.f i).has = (x.a.f i).has ∧ (true = true ∧ (false = true → false = true) ∧ (x.a.f i).old = (x.a.f i).old) ∧ (true = true ∧ (false = true → false = true) ∧ (x.a.f i).to = (x.a.f i).to) ∧ (IntKind.i64 = IntKind.i64 ∧ (x.a.f i).most = (x.a.f i).most) ∧ True) ∧ (false = true → false = true) ∧ x.b.n = x.b.n ∧ (∀ (i : Nat), i < x.b.n → (IntKind.i64 = IntKind.i64 ∧ (x.b.f i).kind = (x.b.f i).kind) ∧ (x.b.f i).table = (x.b.f i).table ∧ (true = true ∧ (false = true → false = true) ∧ (x.b.f i).key = (x.b.f i).key) ∧ (true = true ∧ (false = true → false = true) ∧ (x.b.f i).value = (x.b.f i).value) ∧ (x.b.f i).has = (x.b.f i).has ∧ (true = true ∧ (false = true → false = true) ∧ (x.b.f i).old = (x.b.f i).old) ∧ (true = true ∧ (false = true → false = true) ∧ (x.b.f i).to = (x.b.f i).to) ∧ (IntKind.i64 = IntKind.i64 ∧ (x.b.f i).most = (x.b.f i).most) ∧ True) ∧ True)) (FSame x.a x.b = true ∧ True))
theorem eq_ref_Same : vc_ref_Same = nf_ref_Same := by kernel_rfl
theorem pf_ref_Same : nf_ref_Same := by
 intro x0
 intro ⟨h1, h2⟩
 refine ask_p (bp_not bp_dec) ?_ ?_
 ·intro h3
  refine ⟨by (refine FSame_no fun hh => ?_; have e1 := hh.1; omega), ?_⟩
  trivial
 intro h3
 refine ⟨?_, ?_⟩
 ·refine ⟨⟨(((0 : Int) : Int)).toNat⟩, ?_⟩
  try dsimp only
  refine ⟨?_, ?_⟩
  ·refine ⟨by omega, by omega, ?_⟩
   intro j4
   intro h5
   exfalso; omega
  refine ⟨by rfl, by rfl, by rfl, by rfl, by rfl, by rfl, by decide, by (simp; done), by rfl, by (simp; done), by (simp; done), by rfl, ?_⟩
  refine ⟨by (simp; done), ?_⟩
  trivial
 refine ⟨by trivial, ?_⟩
 intro x4
 intro ⟨h5, ⟨h6, h7⟩⟩
 refine ask_p bp_dec ?_ ?_
 ·intro h8
  refine ⟨by omega, by omega, by omega, by omega, ?_⟩
  intro q9 hq9; subst hq9
  refine ⟨by (simp; done), by (simp; done), by (simp; done), by (simp; done), by (simp; done), ?_⟩
  intro q10 hq10; subst hq10
  refine ⟨by (simp; done), by (simp; done), by (simp; done), by (simp; done), by (simp; done), by (simp; done), by (simp; done), ?_⟩
  intro q11 hq11; subst hq11
  refine ⟨by (simp; done), by (simp; done), by (simp; done), by (simp; done), by (simp; done), by (simp; done), by (simp; done), ?_⟩
  intro q12 hq12; subst hq12
  refine ⟨?_, ?_⟩
  ·intro h13
   intro h14
   omega
  refine ⟨?_, ?_⟩
  ·intro h13
   intro h14
   omega
  refine ⟨?_, ?_⟩
  ·intro h13
   intro h14
   omega
  refine ⟨?_, ?_⟩
  ·intro h13
   intro h14
   omega
  refine ⟨by (simp; done), ?_⟩
  intro q13 hq13; subst hq13
  refine ⟨?_, ?_⟩
  ·intro h14
   intro h15
   omega
  refine ⟨?_, ?_⟩
  ·intro h14
   intro h15
   omega
  refine ⟨?_, ?_⟩
  ·intro h14
   intro h15
   omega
  refine ⟨?_, ?_⟩
  ·intro h14
   intro h15
   omega
  refine ⟨?_, ?_⟩
  ·intro h14
   intro h15
   omega
  refine ⟨?_, ?_⟩
  ·intro h14
   intro h15
   omega
  refine ⟨?_, ?_⟩
  ·intro h14
   intro h15
   omega
  intro q14 hq14; subst hq14
  refine ⟨?_, ?_⟩
  ·intro h15
   intro h16
   omega
  refine ⟨?_, ?_⟩
  ·intro h15
   intro h16
   omega
  refine ⟨?_, ?_⟩
  ·intro h15
   intro h16
   omega
  refine ⟨?_, ?_⟩
  ·intro h15
   intro h16
   omega
  refine ⟨?_, ?_⟩
  ·intro h15
   intro h16
   omega
  refine ⟨?_, ?_⟩
  ·intro h15
   intro h16
   omega
  refine ⟨?_, ?_⟩
  ·intro h15
   intro h16
   omega
  intro q15 hq15; subst hq15
  refine ⟨?_, ?_⟩
  ·intro h16
   intro h17
   omega
  refine ⟨?_, ?_⟩
  ·intro h16
   intro h17
   omega
  refine ⟨?_, ?_⟩
  ·intro h16
   intro h17
   omega
  refine ⟨?_, ?_⟩
  ·intro h16
   intro h17
   omega
  refine ⟨?_, ?_⟩
  ·intro h16
   intro h17
   omega
  refine ask_p (bp_not (bp_and (bp_and (bp_and (bp_and (bp_and (bp_and (bp_and bp_dec bp_dec) bp_dec) bp_dec) bp_id) bp_dec) bp_dec) bp_dec)) ?_ ?_
  ·intro h16
   refine ⟨by (refine FSame_no fun hh => ?_; have e2 := hh.2 x4.i (by omega); simp only [Int.toNat_natCast] at *; simp_all [FOpEq]), ?_⟩
   trivial
  intro h16
  refine ⟨by trivial, by trivial, by trivial, ?_⟩
  refine ⟨⟨((IntKind.i64.wrap ((↑x4.i : Int) + (1 : Int)) : Int)).toNat⟩, ?_⟩
  try dsimp only
  refine ⟨?_, ?_⟩
  ·refine ⟨by (rw [wrap_i64]; omega), by omega, ?_⟩
   intro j17
   intro h18
   exact lt_wrap_succ (P := fun j => FOpEq (x0.a.f j) (x0.b.f j)) (by assumption) (by omega) (by assumption) (by simp only [Int.toNat_natCast] at *; simp_all [FOpEq])
  refine ⟨by (rw [wrap_i64]; omega), by rfl, by rfl, by rfl, by rfl, by rfl, by rfl, by (rw [wrap_i64]; omega), by (simp; done), by rfl, by (simp; done), by (simp; done), ?_⟩
  refine ⟨by rfl, by (simp; done), ?_⟩
  trivial
 intro h8
 refine ⟨by exact FSame_yes ⟨by omega, fun j hj => h7 j (by omega)⟩, ?_⟩
 trivial
end Go.Proofs
