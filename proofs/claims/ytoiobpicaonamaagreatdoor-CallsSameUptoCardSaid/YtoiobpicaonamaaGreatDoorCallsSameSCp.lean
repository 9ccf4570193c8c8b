import Derived.Test.YtoiobpicaonamaaGreatDoorCallsSameSC
namespace Go.Proofs
open Go.Eng
set_option linter.unusedVariables false
set_option linter.unusedSimpArgs false
set_option maxRecDepth 100000
def nf_ref_Alike : Prop :=
 ∀ (x : XRR), (x.a.n < 1099511627776 ∧ x.b.n < 1099511627776 ∧ ∀ (i : Nat), i < x.a.n → (x.a.f i).n < 1099511627776) → ∀ (q : Bool), q = !decide (x.a.abort = x.b.abort) → ((bif false then q else !q) = true → (bif false then q else !q) = true → (bif false then q else !q) = true) ∧ ((bif false then q else !q) = true → (bif false then q else !q) = true → (bif false then q else !q) = true) ∧ ((bif false then q else !q) = true → (bif false then q else !q) = true → (bif false then q else !q) = true) ∧ ((bif false then q else !q) = true → (bif false then q else !q) = true → (bif false then q else !q) = true) ∧ (true = true → q = false → (bif false then q else !q) = true) ∧ ∀ (q_1 : Bool), (q_1 = bif q then true else !decide (x.a.place = x.b.place)) → ((bif false then q_1 else !q_1) = true → (bif false then q_1 else !q_1) = true → (bif false then q_1 else !q_1) = true) ∧ ((bif false then q_1 else !q_1) = true → (bif false then q_1 else !q_1) = true → (bif false then q_1 else !q_1) = true) ∧ ((bif false then q_1 else !q_1) = true → (bif false then q_1 else !q_1) = true → (bif false then q_1 else !q_1) = true) ∧ ((bif false then q_1 else !q_1) = true → (bif false then q_1 else !q_1) = true → (bif false then q_1 else !q_1) = true) ∧ ((bif false then q_1 else !q_1) = true → (bif false then q_1 else !q_1) = true → (bif false then q_1 else !q_1) = true) ∧ ((bif false then q_1 else !q_1) = true → (bif false then q_1 else !q_1) = true → (bif false then q_1 else !q_1) = true) ∧ (true = true → q_1 = false → (bif false then q_1 else !q_1) = true) ∧ Eng.ask (bif q_1 then true else !decide (Eq (α := Int) (↑x.a.n : Int) (↑x.b.n : Int))) (FAlike x.a x.b = false ∧ True) ((∃ (x_1 : XIx), (x_1.i ≤ x.a.n ∧ FResHd x.a x.b ∧ ∀ (j : Nat), j < x_1.i → FOutEq (x.a.f j) (x.b.f j)) ∧ 0 = 0 ∧ 0 = 0 ∧ 0 = 0 ∧ 0 = 0 ∧ 0 = 0 ∧ 0 = 0 ∧ (↑x_1.i : Int) = (0 : Int) ∧ x.a.abort = x.a.abort ∧ x.a.place = x.a.place ∧ (false = true → false = true) ∧ x.a.n = x.a.n ∧ (∀ (i : Nat), i < x.a.n → (x.a.f i).has = (x.a.f i).has ∧ (true = true ∧ (false = true → false = true) ∧ (x.a.f i).value = (x.a.f i).value) ∧ (true = true ∧ (false = true → false = true) ∧ (x.a.f i).n = (x.a.f i).n ∧ 2 = 2 ∧ ∀ (i_1 : Nat), i_1 < (x.a.f i).n → (true = true ∧ (false = true → false = true) ∧ ((x.a.f i).f i_1).key = ((x.a.f i).f i_1).key) ∧ (true = true ∧ (false = true → false = true) ∧ ((x.a.f i).f i_1).value = ((x.a.f i).f i_1).value) ∧ True) ∧ True) ∧ x.b.abort = x.b.abort ∧ x.b.place = x.b.place ∧ (false = true → false = true) ∧ x.b.n = x.b.n ∧ (∀ (i : Nat), i < x.b.n → (x.b.f i).has = (x.b.f i).has ∧ (true = true ∧ (false = true → false = true) ∧ (x.b.f i).value = (x.b.f i).value) ∧ (true = true ∧ (false = true → false = true) ∧ (x.b.f i).n = (x.b.f i).n ∧ 2 = 2 ∧ ∀ (i_1 : Nat), i_1 < (x.b.f i).n → (true = true ∧ (false = true → false = true) ∧ ((x.b.f i).f i_1).key = ((x.b.f i).f i_1).key) ∧ (true = true ∧ (false = true → false = true) ∧ ((x.b.f i).f i_1).value = ((x.b.f i).f i_1).value) ∧ True) ∧ True) ∧ True) ∧ True ∧ ∀ (x_1 : XIx), (x_1.i ≤ x.a.n ∧ FResHd x.a x.b ∧ ∀ (j : Nat), j < x_1.i → FOutEq (x.a.f j) (x.b.f j)) → Eng.ask (decide (LT.lt (α := Int) (↑x_1.i : Int) (↑x.a.n : Int))) ((0 : Int) ≤ (↑x_1.i : Int) ∧ Int.toNat (↑x_1.i : Int) < x.a.n ∧ (0 : Int) ≤ (↑x_1.i : Int) ∧ Int.toNat (↑x_1.i : Int) < x.b.n ∧ ∀ (q : Bool), q = !(x.a.f (Int.toNat (↑x_1.i : Int))).has == (x.b.f (Int.toNat (↑x_1.i : Int))).has → ((bif false then q else !q) = true → (bif false then q else !q) = true → (bif false then q else !q) = true) ∧ ((bif false then q else !q) = true → (bif false then q else !q) = true → (bif false then q else !q) = true) ∧ ((bif false then q else !q) = true → (bif false then q else !q) = true → (bif false then q else !q) = true) ∧ ((bif false then q else !q) = true → (bif false then q else !q) = true → (bif false then q else !q) = true) ∧ ((bif false then q else !q) = true → (bif false then q else !q) = true → (bif false then q else !q) = true) ∧ ((bif false then q else !q) = true → (bif false then q else !q) = true → (bif false then q else !q) = true) ∧ (true = true → q = false → (bif false then q else !q) = true) ∧ ∀ (q_2 : Bool), (q_2 = bif q then true else !decide ((x.a.f (Int.toNat (↑x_1.i : Int))).value = (x.b.f (Int.toNat (↑x_1.i : Int))).value)) → ((bif false then q_2 else !q_2) = true → (bif false then q_2 else !q_2) = true → (bif false then q_2 else !q_2) = true) ∧ ((bif false then q_2 else !q_2) = true → (bif false then q_2 else !q_2) = true → (bif false then q_2 else !q_2) = true) ∧ ((bif false then q_2 else !q_2) = true → (bif false then q_2 else !q_2) = true → (bif false then q_2 else !q_2) = true) ∧ ((bif false then q_2 else !q_2) = true → (bif false then q_2 else !q_2) = true → (bif false then q_2 else !q_2) = true) ∧ ((bif false then q_2 else !q_2) = true → (bif false then q_2 else !q_2) = true → (bif false then q_2 else !q_2) = true) ∧ ((bif false then q_2 else !q_2) = true → (bif false then q_2 else !q_2) = true → (bif false then q_2 else !q_2) = true) ∧ (true = true → q_2 = false → (bif false then q_2 else !q_2) = true) ∧ Eng.ask (bif q_2 then true else !decide (Eq (α := Int) (↑(x.a.f (Int.toNat (↑x_1.i : Int))).n : Int) (↑(x.b.f (Int.toNat (↑x_1.i : Int))).n : Int))) (FAlike x.a x.b = false ∧ True) (∃ (r : Nat), (∃ (x_2 : XIJ), ((x_2.i < x.a.n ∧ FResHd x.a x.b ∧ (∀ (j : Nat), j < x_2.i → FOutEq (x.a.f j) (x.b.f j)) ∧ x_2.j ≤ (x.a.f x_2.i).n ∧ (x.a.f x_2.i).n < 1099511627776 ∧ FOutHd (x.a.f x_2.i) (x.b.f x_2.i) ∧ ∀ (j : Nat), j < x_2.j → FRowEq ((x.a.f x_2.i).f j) ((x.b.f x_2.i).f j)) ∧ r = x_2.i) ∧ 0 = 0 ∧ 0 = 0 ∧ 0 = 0 ∧ 0 = 0 ∧ 0 = 0 ∧ 0 = 0 ∧ Eq (α := Int) (↑x_2.i : Int) (↑x_1.i : Int) ∧ 0 = 0 ∧ 0 = 0 ∧ 0 = 0 ∧ 0 = 0 ∧ 0 = 0 ∧ 0 = 0 ∧ (↑x_2.j : Int) = (0 : Int) ∧ x.a.abort = x.a.abort ∧ x.a.place = x.a.place ∧ (false = true → false = true) ∧ x.a.n = x.a.n ∧ (∀ (i : Nat), i < x.a.n → (x.a.f i).has = (x.a.f i).has ∧ (true = true ∧ (false = true → false = true) ∧ (x.a.f i).value = (x.a.f i).value) ∧ (true = true ∧ (false = true → false = true) ∧ (x.a.f i).n = (x.a.f i).n ∧ 2 = 2 ∧ ∀ (i_1 : Nat), i_1 < (x.a.f i).n → (true = true ∧ (false = true → false = true) ∧ ((x.a.f i).f i_1).key = ((x.a.f i).f i_1).key) ∧ (true = true ∧ (false = true → false = true) ∧ ((x.a.f i).f i_1).value = ((x.a.f i).f i_1).value) ∧ True) ∧ True) ∧ x.b.abort = x.b.abort ∧ x.b.place = x.b.place ∧ (false = true → false = true) ∧ x.b.n = x.b.n ∧ (∀ (i : Nat), i < x.b.n → (x.b.f i).has = (x.b.f i).has ∧ (true = true ∧ (false = true → false = true) ∧ (x.b.f i).value = (x.b.f i).value) ∧ (true = true ∧ (false = true → false = true) ∧ (x.b.f i).n = (x.b.f i).n ∧ 2 = 2 ∧ ∀ (i_1 : Nat), i_1 < (x.b.f i).n → (true = true ∧ (false = true → false = true) ∧ ((x.b.f i).f i_1).key = ((x.b.f i).f i_1).key) ∧ (true = true ∧ (false = true → false = true) ∧ ((x.b.f i).f i_1).value = ((x.b.f i).f i_1).value) ∧ True) ∧ True) ∧ (x.a.f x_2.i).has = (x.a.f (Int.toNat (↑x_1.i : Int))).has ∧ (false = true → false = true) ∧ (x.a.f x_2.i).value = (x.a.f (Int.toNat (↑x_1.i : Int))).value ∧ (false = true → false = true) ∧ (x.a.f x_2.i).n = (x.a.f (Int.toNat (↑x_1.i : Int))).n ∧ (∀ (i : Nat), i < (x.a.f x_2.i).n → (true = true ∧ (false = true → false = true) ∧ ((x.a.f x_2.i).f i).key = ((x.a.f (Int.toNat (↑x_1.i : Int))).f i).key) ∧ (true = true ∧ (false = true → false = true) ∧ ((x.a.f x_2.i).f i).value = ((x.a.f (Int.toNat (↑x_1.i : Int))).f i).value) ∧ True) ∧ (x.b.f x_2.i).has = (x.b.f (Int.toNat (↑x_1.i : Int))).has ∧ (false = true → false = true) ∧ (x.b.f x_2.i).value = (x.b.f (Int.toNat (↑x_1.i : Int))).value ∧ (false = true → false = true) ∧ (x.b.f x_2.i).n = (x.b.f (Int.toNat (↑x_1.i : Int))).n ∧ (∀ (i : Nat), i < (x.b.f x_2.i).n → (true = true ∧ (false = true → false = true) ∧ ((x.b.f x_2.i).f i).key = ((x.b.f (Int.toNat (↑x_1.i : Int))).f i).key) ∧ (true = true ∧ (false = true → false = true) ∧ ((x.b.f x_2.i).f i).value = ((x.b.f (Int.toNat (↑x_1.i : Int))).f i).value) ∧ True) ∧ True) ∧ True ∧ ∀ (x_2 : XIJ), (x_2.i < x.a.n ∧ FResHd x.a x.b ∧ (∀ (j : Nat), j < x_2.i → FOutEq (x.a.f j) (x.b.f j)) ∧ x_2.j ≤ (x.a.f x_2.i).n ∧ (x.a.f x_2.i).n < 1099511627776 ∧ FOutHd (x.a.f x_2.i) (x.b.f x_2.i) ∧ ∀ (j : Nat), j < x_2.j → FRowEq ((x.a.f x_2.i).f j) ((x.b.f x_2.i).f j)) ∧ r = x_2.i → Eng.ask (decide (LT.lt (α := Int) (↑x_2.j : Int) (↑(x.a.f x_2.i).n : Int))) ((0 : Int) ≤ (↑x_2.j : Int) ∧ Int.toNat (↑x_2.j : Int) < (x.a.f x_2.i).n ∧ (0 : Int) ≤ (↑x_2.j : Int) ∧ Int.toNat (↑x_2.j : Int) < (x.b.f x_2.i).n ∧ ∀ (q : Bool), q = !decide (((x.a.f x_2.i).f (Int.toNat (↑x_2.j : Int))).key = ((x.b.f x_2.i).f (Int.toNat (↑x_2.j : Int))).key) → ((bif false then q else !q) = true → (bif false then q else !q) = true → (bif false then q else !q) = true) ∧ ((bif false then q else !q) = true → (bif false then q else !q) = true → (bif false then q else !q) = true) ∧ ((bif false then q else !q) = true → (bif false then q else !q) = true → (bif false then q else !q) = true) ∧ ((bif false then q else !q) = true → (0 : Int) ≤ (↑x_2.j : Int)) ∧ ((bif false then q else !q) = true → Int.toNat (↑x_2.j : Int) < (x.a.f x_2.i).n) ∧ ((bif false then q else !q) = true → (bif false then q else !q) = true → (bif false then q else !q) = true) ∧ ((bif false then q else !q) = true → (bif false then q else !q) = true → (bif false then q else !q) = true) ∧ Eng.ask q ((false = true → false = true → false = true) ∧ (false = true → false = true → false = true) ∧ (false = true → false = true → false = true) ∧ (false = true → (0 : Int) ≤ (↑x_2.j : Int)) ∧ (false = true → Int.toNat (↑x_2.j : Int) < (x.b.f x_2.i).n) ∧ (false = true → false = true → false = true) ∧ (false = true → false = true → false = true) ∧ (false = true → false = true → false = true) ∧ false = false ∧ (true = true → true = false → false = true) ∧ FAlike x.a x.b = false ∧ True) ((true = true → (bif false then q else !q) = true) ∧ (true = true → true = true → true = true) ∧ (true = true → true = true → true = true) ∧ (true = true → true = true → true = true) ∧ (true = true → (0 : Int) ≤ (↑x_2.j : Int)) ∧ (true = true → Int.toNat (↑x_2.j : Int) < (x.b.f x_2.i).n) ∧ (true = true → true = true → true = true) ∧ (true = true → true = true → true = true) ∧ (true = true → true = true → true = true) ∧ (true = true → true = true → true = true) ∧ (true = true → false = false → true = true) ∧ Eng.ask (bif false then true else !decide (((x.a.f x_2.i).f (Int.toNat (↑x_2.j : Int))).value = ((x.b.f x_2.i).f (Int.toNat (↑x_2.j : Int))).value)) (FAlike x.a x.b = false ∧ True) (True ∧ True ∧ True ∧ ∃ (x' : XIJ), ((x'.i < x.a.n ∧ FResHd x.a x.b ∧ (∀ (j : Nat), j < x'.i → FOutEq (x.a.f j) (x.b.f j)) ∧ x'.j ≤ (x.a.f x'.i).n ∧ (x.a.f x'.i).n < 1099511627776 ∧ FOutHd (x.a.f x'.i) (x.b.f x'.i) ∧ ∀ (j : Nat), j < x'.j → FRowEq ((x.a.f x'.i).f j) ((x.b.f x'.i).f j)) ∧ r = x'.i) ∧ (Cut.mk (Cut.mk XIJ (fun y ↦ y.i < x.a.n ∧ FResHd x.a x.b ∧ (∀ (j : Nat), j < y.i → FOutEq (x.a.f j) (x.b.f j)) ∧ y.j ≤ (x.a.f y.i).n ∧ (x.a.f y.i).n < 1099511627776 ∧ FOutHd (x.a.f y.i) (x.b.f y.i) ∧ ∀ (j : Nat), j < y.j → FRowEq ((x.a.f y.i).f j) ((x.b.f y.i).f j)) (fun y ↦ [(2, SV.ptr 0 0 0 0), (3, SV.ptr 1 0 0 0), (5, SV.int IntKind.i64 (↑y.i : Int)), (6, SV.ptr 2 0 0 0), (7, SV.ptr 3 0 0 0), (8, SV.int IntKind.i64 (↑y.j : Int))]) (fun y ↦ [(0, SB.cells (resC 0 x.a) Ty.api_Result), (1, SB.cells (resC 0 x.b) Ty.api_Result), (2, SB.cells (outC 0 (x.a.f y.i)) Ty.api_Out), (3, SB.cells (outC 0 (x.b.f y.i)) Ty.api_Out)]) (fun y ↦ (x.a.f y.i).n - y.j) Nat (some fun r y ↦ r = y.i)).X (fun x_3 ↦ (Cut.mk XIJ (fun y ↦ y.i < x.a.n ∧ FResHd x.a x.b ∧ (∀ (j : Nat), j < y.i → FOutEq (x.a.f j) (x.b.f j)) ∧ y.j ≤ (x.a.f y.i).n ∧ (x.a.f y.i).n < 1099511627776 ∧ FOutHd (x.a.f y.i) (x.b.f y.i) ∧ ∀ (j : Nat), j < y.j → FRowEq ((x.a.f y.i).f j) ((x.b.f y.i).f j)) (fun y ↦ [(2, SV.ptr 0 0 0 0), (3, SV.ptr 1 0 0 0), (5, SV.int IntKind.i64 (↑y.i : Int)), (6, SV.ptr 2 0 0 0), (7, SV.ptr 3 0 0 0), (8, SV.int IntKind.i64 (↑y.j : Int))]) (fun y ↦ [(0, SB.cells (resC 0 x.a) Ty.api_Result), (1, SB.cells (resC 0 x.b) Ty.api_Result), (2, SB.cells (outC 0 (x.a.f y.i)) Ty.api_Out), (3, SB.cells (outC 0 (x.b.f y.i)) Ty.api_Out)]) (fun y ↦ (x.a.f y.i).n - y.j) Nat (some fun r y ↦ r = y.i)).pre x_3 ∧ (fun (r : Nat) (y : XIJ) ↦ r = y.i) r x_3) (fun y ↦ [(2, SV.ptr 0 0 0 0), (3, SV.ptr 1 0 0 0), (5, SV.int IntKind.i64 (↑y.i : Int)), (6, SV.ptr 2 0 0 0), (7, SV.ptr 3 0 0 0), (8, SV.int IntKind.i64 (↑y.j : Int))]) (fun y ↦ [(0, SB.cells [SV.int IntKind.i64 x.a.abort, SV.int IntKind.i64 x.a.place, SV.imm 0 false x.a.n 3 fun i ↦ [SV.bool (x.a.f i).has, SV.bytes 0 false (x.a.f i).value, SV.imm 0 false (x.a.f i).n 2 fun i_1 ↦ [SV.bytes 0 false ((x.a.f i).f i_1).key, SV.bytes 0 false ((x.a.f i).f i_1).value]]] 28), (1, SB.cells [SV.int IntKind.i64 x.b.abort, SV.int IntKind.i64 x.b.place, SV.imm 0 false x.b.n 3 fun i ↦ [SV.bool (x.b.f i).has, SV.bytes 0 false (x.b.f i).value, SV.imm 0 false (x.b.f i).n 2 fun i_1 ↦ [SV.bytes 0 false ((x.b.f i).f i_1).key, SV.bytes 0 false ((x.b.f i).f i_1).value]]] 28), (2, SB.cells [SV.bool (x.a.f y.i).has, SV.bytes 0 false (x.a.f y.i).value, SV.imm 0 false (x.a.f y.i).n 2 fun i ↦ [SV.bytes 0 false ((x.a.f y.i).f i).key, SV.bytes 0 false ((x.a.f y.i).f i).value]] 56), (3, SB.cells [SV.bool (x.b.f y.i).has, SV.bytes 0 false (x.b.f y.i).value, SV.imm 0 false (x.b.f y.i).n 2 fun i ↦ [SV.bytes 0 false ((x.b.f y.i).f i).key, SV.bytes 0 false ((x.b.f y.i).f i).value]] 56)]) (fun y ↦ (x.a.f y.i).n - y.j) Unit none).mu x' < (Cut.mk (Cut.mk XIJ (fun y ↦ y.i < x.a.n ∧ FResHd x.a x.b ∧ (∀ (j : Nat), j < y.i → FOutEq (x.a.f j) (x.b.f j)) ∧ y.j ≤ (x.a.f y.i).n ∧ (x.a.f y.i).n < 1099511627776 ∧ FOutHd (x.a.f y.i) (x.b.f y.i) ∧ ∀ (j : Nat), j < y.j → FRowEq ((x.a.f y.i).f j) ((x.b.f y.i).f j)) (fun y ↦ [(2, SV.ptr 0 0 0 0), (3, SV.ptr 1 0 0 0), (5, SV.int IntKind.i64 (↑y.i : Int)), (6, SV.ptr 2 0 0 0), (7, SV.ptr 3 0 0 0), (8, SV.int IntKind.i64 (↑y.j : Int))]) (fun y ↦ [(0, SB.cells (resC 0 x.a) Ty.api_Result), (1, SB.cells (resC 0 x.b) Ty.api_Result), (2, SB.cells (outC 0 (x.a.f y.i)) Ty.api_Out), (3, SB.cells (outC 0 (x.b.f y.i)) Ty.api_Out)]) (fun y ↦ (x.a.f y.i).n - y.j) Nat (some fun r y ↦ r = y.i)).X (fun x_3 ↦ (Cut.mk XIJ (fun y ↦ y.i < x.a.n ∧ FResHd x.a x.b ∧ (∀ (j : Nat), j < y.i → FOutEq (x.a.f j) (x.b.f j)) ∧ y.j ≤ (x.a.f y.i).n ∧ (x.a.f y.i).n < 1099511627776 ∧ FOutHd (x.a.f y.i) (x.b.f y.i) ∧ ∀ (j : Nat), j < y.j → FRowEq ((x.a.f y.i).f j) ((x.b.f y.i).f j)) (fun y ↦ [(2, SV.ptr 0 0 0 0), (3, SV.ptr 1 0 0 0), (5, SV.int IntKind.i64 (↑y.i : Int)), (6, SV.ptr 2 0 0 0), (7, SV.ptr 3 0 0 0), (8, SV.int IntKind.i64 (↑y.j : Int))]) (fun y ↦ [(0, SB.cells (resC 0 x.a) Ty.api_Result), (1, SB.cells (resC 0 x.b) Ty.api_Result), (2, SB.cells (outC 0 (x.a.f y.i)) Ty.api_Out), (3, SB.cells (outC 0 (x.b.f y.i)) Ty.api_Out)]) (fun y ↦ (x.a.f y.i).n - y.j) Nat (some fun r y ↦ r = y.i)).pre x_3 ∧ (fun (r : Nat) (y : XIJ) ↦ r = y.i) r x_3) (fun y ↦ [(2, SV.ptr 0 0 0 0), (3, SV.ptr 1 0 0 0), (5, SV.int IntKind.i64 (↑y.i : Int)), (6, SV.ptr 2 0 0 0), (7, SV.ptr 3 0 0 0), (8, SV.int IntKind.i64 (↑y.j : Int))]) (fun y ↦ [(0, SB.cells [SV.int IntKind.i64 x.a.abort, SV.int IntKind.i64 x.a.place, SV.imm 0 false x.a.n 3 fun i ↦ [SV.bool (x.a.f i).has, SV.bytes 0 false (x.a.f i).value, SV.imm 0 false (x.a.f i).n 2 fun i_1 ↦ [SV.bytes 0 false ((x.a.f i).f i_1).key, SV.bytes 0 false ((x.a.f i).f i_1).value]]] 28), (1, SB.cells [SV.int IntKind.i64 x.b.abort, SV.int IntKind.i64 x.b.place, SV.imm 0 false x.b.n 3 fun i ↦ [SV.bool (x.b.f i).has, SV.bytes 0 false (x.b.f i).value, SV.imm 0 false (x.b.f i).n 2 fun i_1 ↦ [SV.bytes 0 false ((x.b.f i).f i_1).key, SV.bytes 0 false ((x.b.f i).f i_1).value]]] 28), (2, SB.cells [SV.bool (x.a.f y.i).has, SV.bytes 0 false (x.a.f y.i).value, SV.imm 0 false (x.a.f y.i).n 2 fun i ↦ [SV.bytes 0 false ((x.a.f y.i).f i).key, SV.bytes 0 false ((x.a.f y.i).f i).value]] 56), (3, SB.cells [SV.bool (x.b.f y.i).has, SV.bytes 0 false (x.b.f y.i).value, SV.imm 0 false (x.b.f y.i).n 2 fun i ↦ [SV.bytes 0 false ((x.b.f y.i).f i).key, SV.bytes 0 false ((x.b.f y.i).f i).value]] 56)]) (fun y ↦ (x.a.f y.i).n - y.j) Unit none).mu x_2 ∧ 0 = 0 ∧ 0 = 0 ∧ 0 = 0 ∧ 0 = 0 ∧ 0 = 0 ∧ 0 = 0 ∧ Eq (α := Int) (↑x'.i : Int) (↑x_2.i : Int) ∧ 0 = 0 ∧ 0 = 0 ∧ 0 = 0 ∧ 0 = 0 ∧ 0 = 0 ∧ 0 = 0 ∧ (↑x'.j : Int) = IntKind.i64.wrap ((↑x_2.j : Int) + (1 : Int)) ∧ x.a.abort = x.a.abort ∧ x.a.place = x.a.place ∧ (false = true → false = true) ∧ x.a.n = x.a.n ∧ (∀ (i : Nat), i < x.a.n → (x.a.f i).has = (x.a.f i).has ∧ (true = true ∧ (false = true → false = true) ∧ (x.a.f i).value = (x.a.f i).value) ∧ (true = true ∧ (false = true → false = true) ∧ (x.a.f i).n = (x.a.f i).n ∧ 2 = 2 ∧ ∀ (i_1 : Nat), i_1 < (x.a.f i).n → (true = true ∧ (false = true → false = true) ∧ ((x.a.f i).f i_1).key = ((x.a.f i).f i_1).key) ∧ (true = true ∧ (false = true → false = true) ∧ ((x.a.f i).f i_1).value = ((x.a.f i).f i_1).value) ∧ True) ∧ True) ∧ x.b.abort = x.b.abort ∧ x.b.place = x.b.place ∧ (false = true → false = true) ∧ x.b.n = x.b.n ∧ (∀ (i : Nat), i < x.b.n → (x.b.f i).has = (x.b.f i).has ∧ (true = true ∧ (false = true → false = true) ∧ (x.b.f i).value = (x.b.f i).value) ∧ (true = true ∧ (false = true → false = true) ∧ (x.b.f i).n = (x.b.f i).n ∧ 2 = 2 ∧ ∀ (i_1 : Nat), i_1 < (x.b.f i).n → (true = true ∧ (false = true → false = true) ∧ ((x.b.f i).f i_1).key = ((x.b.f i).f i_1).key) ∧ (true = true ∧ (false = true → false = true) ∧ ((x.b.f i).f i_1).value = ((x.b.f i).f i_1).value) ∧ True) ∧ True) ∧ (x.a.f x'.i).has = (x.a.f x_2.i).has ∧ (false = true → false = true) ∧ (x.a.f x'.i).value = (x.a.f x_2.i).value ∧ (false = true → false = true) ∧ (x.a.f x'.i).n = (x.a.f x_2.i).n ∧ (∀ (i : Nat), i < (x.a.f x'.i).n → (true = true ∧ (false = true → false = true) ∧ ((x.a.f x'.i).f i).key = ((x.a.f x_2.i).f i).key) ∧ (true = true ∧ (false = true → false = true) ∧ ((x.a.f x'.i).f i).value = ((x.a.f x_2.i).f i).value) ∧ True) ∧ (x.b.f x'.i).has = (x.b.f x_2.i).has ∧ (false = true → false = true) ∧ (x.b.f x'.i).value = (x.b.f x_2.i).value ∧ (false = true → false = true) ∧ (x.b.f x'.i).n = (x.b.f x_2.i).n ∧ (∀ (i : Nat), i < (x.b.f x'.i).n → (true = true ∧ (false = true → false = true) ∧ ((x.b.f x'.i).f i).key = ((x.b.f x_2.i).f i).key) ∧ (true = true ∧ (false = true → false = true) ∧ ((x.b.f x'.i).f i).value = ((x.b.f x_2.i).f i).value) ∧ True) ∧ True))) (True ∧ True ∧ True ∧ ∃ (x' : XIx), (x'.i ≤ x.a.n ∧ FResHd x.a x.b ∧ ∀ (j : Nat), j < x'.i → FOutEq (x.a.f j) (x.b.f j)) ∧ x.a.n - x'.i < x.a.n - x_1.i ∧ 0 = 0 ∧ 0 = 0 ∧ 0 = 0 ∧ 0 = 0 ∧ 0 = 0 ∧ 0 = 0 ∧ (↑x'.i : Int) = IntKind.i64.wrap ((↑x_2.i : Int) + (1 : Int)) ∧ x.a.abort = x.a.abort ∧ x.a.place = x.a.place ∧ (false = true → false = true) ∧ x.a.n = x.a.n ∧ (∀ (i : Nat), i < x.a.n → (x.a.f i).has = (x.a.f i).has ∧ (true = true ∧ (false = true → false = true) ∧ (x.a.f i).value = (x.a.f i).value) ∧ (true = true ∧ (false = true → false = true) ∧ (x.a.f i).n = (x.a.f i).n ∧ 2 = 2 ∧ ∀ (i_1 : Nat), i_1 < (x.a.f i).n → (true = true ∧ (false = true → false = true) ∧ ((x.a.f i).f i_1).key = ((x.a.f i).f i_1).key) ∧ (true = true ∧ (false = true → false = true) ∧ ((x.a.f i).f i_1).value = ((x.a.f i).f i_1).value) ∧ True) ∧ True) ∧ x.b.abort = x.b.abort ∧ x.b.place = x.b.place ∧ (false = true → false = true) ∧ x.b.n = x.b.n ∧ (∀ (i : Nat), i < x.b.n → (x.b.f i).has = (x.b.f i).has ∧ (true = true ∧ (false = true → false = true) ∧ (x.b.f i).value = (x.b.f i).value) ∧ (true = true ∧ (false = true → false = true) ∧ (x.b.f i).n = (x.b.f i).n ∧ 2 = 2 ∧ ∀ (i_1 : Nat), i_1 < (x.b.f i).n → (true = true ∧ (false = true → false = true) ∧ ((x.b.f i).f i_1).key = ((x.b.f i).f i_1).key) ∧ (true = true ∧ (false = true → false = true) ∧ ((x.b.f i).f i_1).value = ((x.b.f i).f i_1).value) ∧ True) ∧ True) ∧ True))) (FAlike x.a x.b = true ∧ True))
theorem eq_ref_Alike : vc_ref_Alike = nf_ref_Alike := by kernel_rfl
theorem pf_ref_Alike : nf_ref_Alike := by
 intro x0
 intro ⟨h1, ⟨h2, h3⟩⟩
 intro q4 hq4; subst hq4
 refine ⟨by (simp; done), by (simp; done), by (simp; done), by (simp; done), by (simp; done), ?_⟩
 intro q5 hq5; subst hq5
 refine ⟨by (simp; done), by (simp; done), by (simp; done), by (simp; done), by (simp; done), by (simp; done), by (simp; done), ?_⟩
 refine ask_p (bp_or (bp_or (bp_not bp_dec) (bp_not bp_dec)) (bp_not bp_dec)) ?_ ?_
 ·intro h6
  refine ⟨by (refine FAlike_no fun hh => ?_; obtain ⟨e1, e2, e3, e4⟩ := hh; simp_all; done), ?_⟩
  trivial
 intro h6
 refine ⟨?_, ?_⟩
 ·refine ⟨⟨(((0 : Int) : Int)).toNat⟩, ?_⟩
  try dsimp only
  refine ⟨?_, ?_⟩
  ·refine ⟨by (simp_all [FResHd]; done), by (simp only [FResHd] at *; omega), ?_⟩
   intro j7
   intro h8
   exfalso; omega
  refine ⟨by rfl, by rfl, by rfl, by rfl, by rfl, by rfl, by decide, by rfl, by rfl, by (simp; done), by rfl, by (simp; done), ?_⟩
  refine ⟨by rfl, by rfl, by (simp; done), by rfl, by (simp; done), ?_⟩
  trivial
 refine ⟨by trivial, ?_⟩
 intro x7
 intro ⟨h8, ⟨h9, h10⟩⟩
 refine ask_p bp_dec ?_ ?_
 ·intro h11
  refine ⟨by (simp only [FResHd] at *; omega), by (simp only [FResHd] at *; omega), by (simp only [FResHd] at *; omega), by (simp only [FResHd] at *; omega), ?_⟩
  intro q12 hq12; subst hq12
  refine ⟨by (simp; done), by (simp; done), by (simp; done), by (simp; done), by (simp; done), by (simp; done), by (simp; done), ?_⟩
  intro q13 hq13; subst hq13
  refine ⟨?_, ?_⟩
  ·intro h14
   intro h15
   (simp only [FResHd] at *; omega)
  refine ⟨?_, ?_⟩
  ·intro h14
   intro h15
   (simp only [FResHd] at *; omega)
  refine ⟨?_, ?_⟩
  ·intro h14
   intro h15
   (simp only [FResHd] at *; omega)
  refine ⟨?_, ?_⟩
  ·intro h14
   intro h15
   (simp only [FResHd] at *; omega)
  refine ⟨?_, ?_⟩
  ·intro h14
   intro h15
   (simp only [FResHd] at *; omega)
  refine ⟨?_, ?_⟩
  ·intro h14
   intro h15
   (simp only [FResHd] at *; omega)
  refine ⟨by (simp; done), ?_⟩
  refine ask_p (bp_or (bp_or (bp_not bp_id) (bp_not bp_dec)) (bp_not bp_dec)) ?_ ?_
  ·intro h14
   refine ⟨by (refine FAlike_no fun hh => ?_; obtain ⟨e1, e2, e3, e4⟩ := hh; obtain ⟨e5, e6, e7, e8⟩ := e4 x7.i (by omega); simp_all; done), ?_⟩
   trivial
  intro h14
  refine ⟨x7.i, ?_⟩
  try dsimp only
  refine ⟨?_, ?_⟩
  ·refine ⟨⟨(x7.i), (((0 : Int) : Int)).toNat⟩, ?_⟩
   try dsimp only
   refine ⟨?_, ?_⟩
   ·refine ⟨?_, ?_⟩
    ·refine ⟨by (simp only [FResHd] at *; omega), by (simp only [FResHd] at *; omega), ?_⟩
     refine ⟨?_, ?_⟩
     ·intro j15
      intro h16
      (simp_all [FResHd]; done)
     refine ⟨by (simp only [FResHd] at *; omega), by (simp_all [FResHd]; done), by exact FOutHd_of (by simp_all) (by simp_all) (by simp_all <;> omega), ?_⟩
     intro j15
     intro h16
     exfalso; omega
    rfl
   refine ⟨by rfl, by rfl, by rfl, by rfl, by rfl, by rfl, by rfl, by rfl, by rfl, by rfl, by rfl, by rfl, ?_⟩
   refine ⟨by rfl, by decide, by rfl, by rfl, by (simp; done), by rfl, by (simp; done), by rfl, by rfl, by (simp; done), by rfl, by (simp; done), ?_⟩
   refine ⟨by (simp_all [FResHd]; done), by (simp; done), by (simp_all [FResHd]; done), by (simp; done), by (simp_all [FResHd]; done), by (simp; done), by (simp_all [FResHd]; done), by (simp; done), by (simp_all [FResHd]; done), by (simp; done), by (simp_all [FResHd]; done), by (simp; done), ?_⟩
   trivial
  refine ⟨by trivial, ?_⟩
  intro x15
  intro ⟨⟨h16, ⟨h17, ⟨h18, ⟨h19, ⟨h20, ⟨h21, h22⟩⟩⟩⟩⟩⟩, h23⟩
  refine ask_p bp_dec ?_ ?_
  ·intro h24
   refine ⟨by (simp only [FOutHd] at *; omega), by (simp only [FOutHd] at *; omega), by (simp only [FOutHd] at *; omega), by (simp only [FOutHd] at *; omega), ?_⟩
   intro q25 hq25; subst hq25
   refine ⟨by (simp; done), by (simp; done), by (simp; done), by (simp; done), ?_⟩
   refine ⟨?_, ?_⟩
   ·intro h26
    (simp only [FOutHd] at *; omega)
   refine ⟨by (simp; done), by (simp; done), ?_⟩
   refine ask_p (bp_not bp_dec) ?_ ?_
   ·intro h26
    refine ⟨by (simp; done), by (simp; done), by (simp; done), by (simp; done), by (simp; done), by (simp; done), by (simp; done), by (simp; done), by rfl, by (simp; done), by (refine FAlike_no fun hh => ?_; obtain ⟨e1, e2, e3, e4⟩ := hh; obtain ⟨e5, e6, e7, e8⟩ := e4 x15.i (by omega); obtain ⟨e9, e10⟩ := e8 x15.j (by omega); simp_all; done), ?_⟩
    trivial
   intro h26
   refine ⟨?_, ?_⟩
   ·intro h27
    (simp_all [FResHd]; done)
   refine ⟨by (simp; done), by (simp; done), by (simp; done), by (simp; done), ?_⟩
   refine ⟨?_, ?_⟩
   ·intro h27
    (simp only [FOutHd] at *; omega)
   refine ⟨by (simp; done), by (simp; done), by (simp; done), by (simp; done), by (simp; done), ?_⟩
   refine ask_p (bp_or bp_false (bp_not bp_dec)) ?_ ?_
   ·intro h27
    refine ⟨by (refine FAlike_no fun hh => ?_; obtain ⟨e1, e2, e3, e4⟩ := hh; obtain ⟨e5, e6, e7, e8⟩ := e4 x15.i (by omega); obtain ⟨e9, e10⟩ := e8 x15.j (by omega); simp_all; done), ?_⟩
    trivial
   intro h27
   refine ⟨by trivial, by trivial, by trivial, ?_⟩
   refine ⟨⟨(x15.i), ((IntKind.i64.wrap ((↑x15.j : Int) + (1 : Int)) : Int)).toNat⟩, ?_⟩
   try dsimp only
   refine ⟨?_, ?_⟩
   ·refine ⟨?_, ?_⟩
    ·refine ⟨by (simp only [FOutHd] at *; omega), by (simp only [FOutHd] at *; omega), ?_⟩
     refine ⟨?_, ?_⟩
     ·intro j28
      intro h29
      (simp_all [FResHd]; done)
     refine ⟨by (rw [wrap_succ _ (by omega)]; simp only [Int.toNat_natCast]; omega), by (simp only [FOutHd] at *; omega), by (simp only [FOutHd] at *; omega), ?_⟩
     intro j28
     intro h29
     exact lt_wrap_succ (P := fun k => FRowEq ((x0.a.f x15.i).f k) ((x0.b.f x15.i).f k)) (by assumption) (by omega) (by assumption) (by simp_all [FRowEq])
    (simp only [FOutHd] at *; omega)
   refine ⟨by (rw [wrap_succ _ (by omega)]; simp only [Int.toNat_natCast]; omega), by rfl, by rfl, by rfl, by rfl, by rfl, by rfl, by rfl, by rfl, by rfl, by rfl, by rfl, ?_⟩
   refine ⟨by rfl, by rfl, by (rw [wrap_succ _ (by omega)]; omega), by rfl, by rfl, by (simp; done), by rfl, by (simp; done), by rfl, by rfl, by (simp; done), by rfl, ?_⟩
   refine ⟨by (simp; done), by rfl, by (simp; done), by rfl, by (simp; done), by rfl, by (simp; done), by rfl, by (simp; done), by rfl, by (simp; done), by rfl, ?_⟩
   refine ⟨by (simp; done), ?_⟩
   trivial
  intro h24
  refine ⟨by trivial, by trivial, by trivial, ?_⟩
  refine ⟨⟨((IntKind.i64.wrap ((↑x15.i : Int) + (1 : Int)) : Int)).toNat⟩, ?_⟩
  try dsimp only
  refine ⟨?_, ?_⟩
  ·refine ⟨by (rw [wrap_succ _ (by omega)]; simp only [Int.toNat_natCast]; omega), by (simp only [FOutHd] at *; omega), ?_⟩
   intro j25
   intro h26
   exact lt_wrap_succ (P := fun k => FOutEq (x0.a.f k) (x0.b.f k)) (by assumption) (by omega) (by assumption) (FOutEq_of (by assumption) (by assumption) (by assumption))
  refine ⟨by (rw [wrap_succ _ (by omega)]; simp only [Int.toNat_natCast]; omega), by rfl, by rfl, by rfl, by rfl, by rfl, by rfl, by (rw [wrap_succ _ (by omega)]; omega), by rfl, by rfl, by (simp; done), by rfl, ?_⟩
  refine ⟨by (simp; done), by rfl, by rfl, by (simp; done), by rfl, by (simp; done), ?_⟩
  trivial
 intro h11
 refine ⟨by exact FAlike_yes (FResEq_of (by assumption) (by assumption) (by assumption)), ?_⟩
 trivial
def nf_law : Prop :=
 ∀ (x : XL), FCallOk x.a ∧ FCallOk x.b ∧ FResOk x.p ∧ FResOk x.q → ∃ (x_1 : XC), x_1.a.n < 1099511627776 ∧ (false = true → false = true) ∧ x_1.a.n = x.a.n ∧ (∀ (i : Nat), i < x_1.a.n → (IntKind.i64 = IntKind.i64 ∧ (x_1.a.f i).kind = (x.a.f i).kind) ∧ (x_1.a.f i).table = (x.a.f i).table ∧ (true = true ∧ (false = true → false = true) ∧ (x_1.a.f i).key = (x.a.f i).key) ∧ (true = true ∧ (false = true → false = true) ∧ (x_1.a.f i).value = (x.a.f i).value) ∧ (x_1.a.f i).has = (x.a.f i).has ∧ (true = true ∧ (false = true → false = true) ∧ (x_1.a.f i).old = (x.a.f i).old) ∧ (true = true ∧ (false = true → false = true) ∧ (x_1.a.f i).to = (x.a.f i).to) ∧ (IntKind.i64 = IntKind.i64 ∧ (x_1.a.f i).most = (x.a.f i).most) ∧ True) ∧ ∀ (x_2 : Bool), True → True ∧ ∀ (q : Bool), q = !x_2 → Eng.ask (bif false then q else !q) ((true = true → (bif false then q else !q) = true) ∧ ∃ (x_3 : XC), x_3.a.n < 1099511627776 ∧ (false = true → false = true) ∧ x_3.a.n = x.b.n ∧ (∀ (i : Nat), i < x_3.a.n → (IntKind.i64 = IntKind.i64 ∧ (x_3.a.f i).kind = (x.b.f i).kind) ∧ (x_3.a.f i).table = (x.b.f i).table ∧ (true = true ∧ (false = true → false = true) ∧ (x_3.a.f i).key = (x.b.f i).key) ∧ (true = true ∧ (false = true → false = true) ∧ (x_3.a.f i).value = (x.b.f i).value) ∧ (x_3.a.f i).has = (x.b.f i).has ∧ (true = true ∧ (false = true → false = true) ∧ (x_3.a.f i).old = (x.b.f i).old) ∧ (true = true ∧ (false = true → false = true) ∧ (x_3.a.f i).to = (x.b.f i).to) ∧ (IntKind.i64 = IntKind.i64 ∧ (x_3.a.f i).most = (x.b.f i).most) ∧ True) ∧ ∀ (x_4 : Bool), True → True ∧ (true = true → false = false → true = true) ∧ Eng.ask (bif false then true else !x_4) (true = true ∧ True) (∃ (x_5 : XCC), (x_5.a.n < 1099511627776 ∧ x_5.b.n < 1099511627776) ∧ (false = true → false = true) ∧ x_5.a.n = x.a.n ∧ (∀ (i : Nat), i < x_5.a.n → (IntKind.i64 = IntKind.i64 ∧ (x_5.a.f i).kind = (x.a.f i).kind) ∧ (x_5.a.f i).table = (x.a.f i).table ∧ (true = true ∧ (false = true → false = true) ∧ (x_5.a.f i).key = (x.a.f i).key) ∧ (true = true ∧ (false = true → false = true) ∧ (x_5.a.f i).value = (x.a.f i).value) ∧ (x_5.a.f i).has = (x.a.f i).has ∧ (true = true ∧ (false = true → false = true) ∧ (x_5.a.f i).old = (x.a.f i).old) ∧ (true = true ∧ (false = true → false = true) ∧ (x_5.a.f i).to = (x.a.f i).to) ∧ (IntKind.i64 = IntKind.i64 ∧ (x_5.a.f i).most = (x.a.f i).most) ∧ True) ∧ (false = true → false = true) ∧ x_5.b.n = x.b.n ∧ (∀ (i : Nat), i < x_5.b.n → (IntKind.i64 = IntKind.i64 ∧ (x_5.b.f i).kind = (x.b.f i).kind) ∧ (x_5.b.f i).table = (x.b.f i).table ∧ (true = true ∧ (false = true → false = true) ∧ (x_5.b.f i).key = (x.b.f i).key) ∧ (true = true ∧ (false = true → false = true) ∧ (x_5.b.f i).value = (x.b.f i).value) ∧ (x_5.b.f i).has = (x.b.f i).has ∧ (true = true ∧ (false = true → false = true) ∧ (x_5.b.f i).old = (x.b.f i).old) ∧ (true = true ∧ (false = true → false = true) ∧ (x_5.b.f i).to = (x.b.f i).to) ∧ (IntKind.i64 = IntKind.i64 ∧ (x_5.b.f i).most = (x.b.f i).most) ∧ True) ∧ True ∧ ∃ (x_6 : XCC), (x_6.a.n < 1099511627776 ∧ x_6.b.n < 1099511627776) ∧ (false = true → false = true) ∧ x_6.a.n = x.a.n ∧ (∀ (i : Nat), i < x_6.a.n → (IntKind.i64 = IntKind.i64 ∧ (x_6.a.f i).kind = (x.a.f i).kind) ∧ (x_6.a.f i).table = (x.a.f i).table ∧ (true = true ∧ (false = true → false = true) ∧ (x_6.a.f i).key = (x.a.f i).key) ∧ (true = true ∧ (false = true → false = true) ∧ (x_6.a.f i).value = (x.a.f i).value) ∧ (x_6.a.f i).has = (x.a.f i).has ∧ (true = true ∧ (false = true → false = true) ∧ (x_6.a.f i).old = (x.a.f i).old) ∧ (true = true ∧ (false = true → false = true) ∧ (x_6.a.f i).to = (x.a.f i).to) ∧ (IntKind.i64 = IntKind.i64 ∧ (x_6.a.f i).most = (x.a.f i).most) ∧ True) ∧ (false = true → false = true) ∧ x_6.b.n = x.b.n ∧ (∀ (i : Nat), i < x_6.b.n → (IntKind.i64 = IntKind.i64 ∧ (x_6.b.f i).kind = (x.b.f i).kind) ∧ (x_6.b.f i).table = (x.b.f i).table ∧ (true = true ∧ (false = true → false = true) ∧ (x_6.b.f i).key = (x.b.f i).key) ∧ (true = true ∧ (false = true → false = true) ∧ (x_6.b.f i).value = (x.b.f i).value) ∧ (x_6.b.f i).has = (x.b.f i).has ∧ (true = true ∧ (false = true → false = true) ∧ (x_6.b.f i).old = (x.b.f i).old) ∧ (true = true ∧ (false = true → false = true) ∧ (x_6.b.f i).to = (x.b.f i).to) ∧ (IntKind.i64 = IntKind.i64 ∧ (x_6.b.f i).most = (x.b.f i).most) ∧ True) ∧ True ∧ ∀ (q : Bool), q = (FSame x_5.a x_5.b == FSame x_6.a x_6.b) → Eng.ask q ((true = true → q = true) ∧ ∃ (x_7 : XC), (x_7.a.n < 1048577 ∧ ∀ (i : Nat), i < x_7.a.n → FOpSmall (x_7.a.f i)) ∧ (false = true → false = true) ∧ x_7.a.n = x.a.n ∧ (∀ (i : Nat), i < x_7.a.n → (IntKind.i64 = IntKind.i64 ∧ (x_7.a.f i).kind = (x.a.f i).kind) ∧ (x_7.a.f i).table = (x.a.f i).table ∧ (true = true ∧ (false = true → false = true) ∧ (x_7.a.f i).key = (x.a.f i).key) ∧ (true = true ∧ (false = true → false = true) ∧ (x_7.a.f i).value = (x.a.f i).value) ∧ (x_7.a.f i).has = (x.a.f i).has ∧ (true = true ∧ (false = true → false = true) ∧ (x_7.a.f i).old = (x.a.f i).old) ∧ (true = true ∧ (false = true → false = true) ∧ (x_7.a.f i).to = (x.a.f i).to) ∧ (IntKind.i64 = IntKind.i64 ∧ (x_7.a.f i).most = (x.a.f i).most) ∧ True) ∧ True ∧ (true = true → q = true) ∧ ∃ (x_8 : XCC), (x_8.a.n < 1099511627776 ∧ x_8.b.n < 1099511627776) ∧ (false = true → false = true) ∧ x_8.a.n = x.a.n ∧ (∀ (i : Nat), i < x_8.a.n → (IntKind.i64 = IntKind.i64 ∧ (x_8.a.f i).kind = (x.a.f i).kind) ∧ (x_8.a.f i).table = (x.a.f i).table ∧ (true = true ∧ (false = true → false = true) ∧ (x_8.a.f i).key = (x.a.f i).key) ∧ (true = true ∧ (false = true → false = true) ∧ (x_8.a.f i).value = (x.a.f i).value) ∧ (x_8.a.f i).has = (x.a.f i).has ∧ (true = true ∧ (false = true → false = true) ∧ (x_8.a.f i).old = (x.a.f i).old) ∧ (true = true ∧ (false = true → false = true) ∧ (x_8.a.f i).to = (x.a.f i).to) ∧ (IntKind.i64 = IntKind.i64 ∧ (x_8.a.f i).most = (x.a.f i).most) ∧ True) ∧ (false = true → false = true) ∧ x_8.b.n = x_7.a.n ∧ (∀ (i : Nat), i < x_8.b.n → (IntKind.i64 = IntKind.i64 ∧ (x_8.b.f i).kind = (x_7.a.f i).kind) ∧ (x_8.b.f i).table = (x_7.a.f i).table ∧ (true = true ∧ (false = true → false = true) ∧ (x_8.b.f i).key = (x_7.a.f i).key) ∧ (true = true ∧ (false = true → false = true) ∧ (x_8.b.f i).value = (x_7.a.f i).value) ∧ (x_8.b.f i).has = (x_7.a.f i).has ∧ (true = true ∧ (false = true → false = true) ∧ (x_8.b.f i).old = (x_7.a.f i).old) ∧ (true = true ∧ (false = true → false = true) ∧ (x_8.b.f i).to = (x_7.a.f i).to) ∧ (IntKind.i64 = IntKind.i64 ∧ (x_8.b.f i).most = (x_7.a.f i).most) ∧ True) ∧ True ∧ ∀ (q : Bool), (q = bif true then FSame x_8.a x_8.b else false) → (q = true → (0 : Int) ≤ (0 : Int)) ∧ (q = true → 0 < 2) ∧ (q = true → q = true → q = true) ∧ (q = true → (0 : Int) ≤ (1 : Int)) ∧ (q = true → 1 < 2) ∧ (q = true → q = true → q = true) ∧ Eng.ask q ((true = true → q = true) ∧ (true = true → q = true) ∧ ∃ (x_9 : XRR), (x_9.a.n < 1099511627776 ∧ x_9.b.n < 1099511627776 ∧ ∀ (i : Nat), i < x_9.a.n → (x_9.a.f i).n < 1099511627776) ∧ x_9.a.abort = x.p.abort ∧ x_9.a.place = x.p.place ∧ (false = true → false = true) ∧ x_9.a.n = x.p.n ∧ (∀ (i : Nat), i < x_9.a.n → (x_9.a.f i).has = (x.p.f i).has ∧ (true = true ∧ (false = true → false = true) ∧ (x_9.a.f i).value = (x.p.f i).value) ∧ (true = true ∧ (false = true → false = true) ∧ (x_9.a.f i).n = (x.p.f i).n ∧ 2 = 2 ∧ ∀ (i_1 : Nat), i_1 < (x_9.a.f i).n → (true = true ∧ (false = true → false = true) ∧ ((x_9.a.f i).f i_1).key = ((x.p.f i).f i_1).key) ∧ (true = true ∧ (false = true → false = true) ∧ ((x_9.a.f i).f i_1).value = ((x.p.f i).f i_1).value) ∧ True) ∧ True) ∧ x_9.b.abort = x.q.abort ∧ x_9.b.place = x.q.place ∧ (false = true → false = true) ∧ x_9.b.n = x.q.n ∧ (∀ (i : Nat), i < x_9.b.n → (x_9.b.f i).has = (x.q.f i).has ∧ (true = true ∧ (false = true → false = true) ∧ (x_9.b.f i).value = (x.q.f i).value) ∧ (true = true ∧ (false = true → false = true) ∧ (x_9.b.f i).n = (x.q.f i).n ∧ 2 = 2 ∧ ∀ (i_1 : Nat), i_1 < (x_9.b.f i).n → (true = true ∧ (false = true → false = true) ∧ ((x_9.b.f i).f i_1).key = ((x.q.f i).f i_1).key) ∧ (true = true ∧ (false = true → false = true) ∧ ((x_9.b.f i).f i_1).value = ((x.q.f i).f i_1).value) ∧ True) ∧ True) ∧ True ∧ (true = true → (0 : Int) ≤ (0 : Int)) ∧ (true = true → 0 < 2) ∧ (true = true → true = true → true = true) ∧ (true = true → (0 : Int) ≤ (1 : Int)) ∧ (true = true → 1 < 2) ∧ (true = true → true = true → true = true) ∧ (true = true → true = true) ∧ (true = true → true = true) ∧ ∃ (x_10 : XRR), (x_10.a.n < 1099511627776 ∧ x_10.b.n < 1099511627776 ∧ ∀ (i : Nat), i < x_10.a.n → (x_10.a.f i).n < 1099511627776) ∧ x_10.a.abort = x.p.abort ∧ x_10.a.place = x.p.place ∧ (false = true → false = true) ∧ x_10.a.n = x.p.n ∧ (∀ (i : Nat), i < x_10.a.n → (x_10.a.f i).has = (x.p.f i).has ∧ (true = true ∧ (false = true → false = true) ∧ (x_10.a.f i).value = (x.p.f i).value) ∧ (true = true ∧ (false = true → false = true) ∧ (x_10.a.f i).n = (x.p.f i).n ∧ 2 = 2 ∧ ∀ (i_1 : Nat), i_1 < (x_10.a.f i).n → (true = true ∧ (false = true → false = true) ∧ ((x_10.a.f i).f i_1).key = ((x.p.f i).f i_1).key) ∧ (true = true ∧ (false = true → false = true) ∧ ((x_10.a.f i).f i_1).value = ((x.p.f i).f i_1).value) ∧ True) ∧ True) ∧ x_10.b.abort = x.q.abort ∧ x_10.b.place = x.q.place ∧ (false = true → false = true) ∧ x_10.b.n = x.q.n ∧ (∀ (i : Nat), i < x_10.b.n → (x_10.b.f i).has = (x.q.f i).has ∧ (true = true ∧ (false = true → false = true) ∧ (x_10.b.f i).value = (x.q.f i).value) ∧ (true = true ∧ (false = true → false = true) ∧ (x_10.b.f i).n = (x.q.f i).n ∧ 2 = 2 ∧ ∀ (i_1 : Nat), i_1 < (x_10.b.f i).n → (true = true ∧ (false = true → false = true) ∧ ((x_10.b.f i).f i_1).key = ((x.q.f i).f i_1).key) ∧ (true = true ∧ (false = true → false = true) ∧ ((x_10.b.f i).f i_1).value = ((x.q.f i).f i_1).value) ∧ True) ∧ True) ∧ True ∧ (true = true → true = true → true = true) ∧ ∀ (q : Bool), (q = bif true then FAlike x_9.a x_9.b == FAlike x_10.a x_10.b else false) → (q = true → (0 : Int) ≤ (0 : Int)) ∧ (q = true → 0 < 2) ∧ (q = true → q = true → q = true) ∧ (q = true → (0 : Int) ≤ (0 : Int)) ∧ (q = true → 0 < 2) ∧ (q = true → q = true → q = true) ∧ Eng.ask q ((true = true → q = true) ∧ (true = true → q = true) ∧ ∃ (x_11 : XRR), (x_11.a.n < 1099511627776 ∧ x_11.b.n < 1099511627776 ∧ ∀ (i : Nat), i < x_11.a.n → (x_11.a.f i).n < 1099511627776) ∧ x_11.a.abort = x.p.abort ∧ x_11.a.place = x.p.place ∧ (false = true → false = true) ∧ x_11.a.n = x.p.n ∧ (∀ (i : Nat), i < x_11.a.n → (x_11.a.f i).has = (x.p.f i).has ∧ (true = true ∧ (false = true → false = true) ∧ (x_11.a.f i).value = (x.p.f i).value) ∧ (true = true ∧ (false = true → false = true) ∧ (x_11.a.f i).n = (x.p.f i).n ∧ 2 = 2 ∧ ∀ (i_1 : Nat), i_1 < (x_11.a.f i).n → (true = true ∧ (false = true → false = true) ∧ ((x_11.a.f i).f i_1).key = ((x.p.f i).f i_1).key) ∧ (true = true ∧ (false = true → false = true) ∧ ((x_11.a.f i).f i_1).value = ((x.p.f i).f i_1).value) ∧ True) ∧ True) ∧ x_11.b.abort = x.p.abort ∧ x_11.b.place = x.p.place ∧ (false = true → false = true) ∧ x_11.b.n = x.p.n ∧ (∀ (i : Nat), i < x_11.b.n → (x_11.b.f i).has = (x.p.f i).has ∧ (true = true ∧ (false = true → false = true) ∧ (x_11.b.f i).value = (x.p.f i).value) ∧ (true = true ∧ (false = true → false = true) ∧ (x_11.b.f i).n = (x.p.f i).n ∧ 2 = 2 ∧ ∀ (i_1 : Nat), i_1 < (x_11.b.f i).n → (true = true ∧ (false = true → false = true) ∧ ((x_11.b.f i).f i_1).key = ((x.p.f i).f i_1).key) ∧ (true = true ∧ (false = true → false = true) ∧ ((x_11.b.f i).f i_1).value = ((x.p.f i).f i_1).value) ∧ True) ∧ True) ∧ True ∧ ∀ (q : Bool), (q = bif true then FAlike x_11.a x_11.b else false) → Eng.ask q (true = true ∧ True) False) False) ((false = true → (0 : Int) ≤ (0 : Int)) ∧ (false = true → 0 < 2) ∧ (false = true → false = true → false = true) ∧ (false = true → (0 : Int) ≤ (1 : Int)) ∧ (false = true → 1 < 2) ∧ (false = true → false = true → false = true) ∧ false = false ∧ (true = true → false = true → false = true) ∧ ∀ (q : Bool), q = false → (q = true → (0 : Int) ≤ (0 : Int)) ∧ (q = true → 0 < 2) ∧ (q = true → q = true → q = true) ∧ (q = true → (0 : Int) ≤ (0 : Int)) ∧ (q = true → 0 < 2) ∧ (q = true → q = true → q = true) ∧ Eng.ask q ((true = true → q = true) ∧ (true = true → q = true) ∧ ∃ (x_9 : XRR), (x_9.a.n < 1099511627776 ∧ x_9.b.n < 1099511627776 ∧ ∀ (i : Nat), i < x_9.a.n → (x_9.a.f i).n < 1099511627776) ∧ x_9.a.abort = x.p.abort ∧ x_9.a.place = x.p.place ∧ (false = true → false = true) ∧ x_9.a.n = x.p.n ∧ (∀ (i : Nat), i < x_9.a.n → (x_9.a.f i).has = (x.p.f i).has ∧ (true = true ∧ (false = true → false = true) ∧ (x_9.a.f i).value = (x.p.f i).value) ∧ (true = true ∧ (false = true → false = true) ∧ (x_9.a.f i).n = (x.p.f i).n ∧ 2 = 2 ∧ ∀ (i_1 : Nat), i_1 < (x_9.a.f i).n → (true = true ∧ (false = true → false = true) ∧ ((x_9.a.f i).f i_1).key = ((x.p.f i).f i_1).key) ∧ (true = true ∧ (false = true → false = true) ∧ ((x_9.a.f i).f i_1).value = ((x.p.f i).f i_1).value) ∧ True) ∧ True) ∧ x_9.b.abort = x.p.abort ∧ x_9.b.place = x.p.place ∧ (false = true → false = true) ∧ x_9.b.n = x.p.n ∧ (∀ (i : Nat), i < x_9.b.n → (x_9.b.f i).has = (x.p.f i).has ∧ (true = true ∧ (false = true → false = true) ∧ (x_9.b.f i).value = (x.p.f i).value) ∧ (true = true ∧ (false = true → false = true) ∧ (x_9.b.f i).n = (x.p.f i).n ∧ 2 = 2 ∧ ∀ (i_1 : Nat), i_1 < (x_9.b.f i).n → (true = true ∧ (false = true → false = true) ∧ ((x_9.b.f i).f i_1).key = ((x.p.f i).f i_1).key) ∧ (true = true ∧ (false = true → false = true) ∧ ((x_9.b.f i).f i_1).value = ((x.p.f i).f i_1).value) ∧ True) ∧ True) ∧ True ∧ ∀ (q : Bool), (q = bif true then FAlike x_9.a x_9.b else false) → Eng.ask q (true = true ∧ True) False) False)) False)) (true = true ∧ True)
theorem eq_law : vc_law = nf_law := by kernel_rfl
theorem pf_law : nf_law := by
 intro x0
 intro ⟨h1, ⟨h2, ⟨h3, h4⟩⟩⟩
 refine ⟨⟨(x0.a)⟩, ?_⟩
 try dsimp only
 refine ⟨by (have e1 := h1.1; have e2 := h2.1; have e3 := h3.1; have e4 := h4.1; omega), by (simp; done), by rfl, by (simp; done), ?_⟩
 intro x5
 intro h6
 refine ⟨by trivial, ?_⟩
 intro q7 hq7; subst hq7
 refine ask_p (bp_cond bp_false (bp_not bp_id) (bp_not (bp_not bp_id))) ?_ ?_
 ·intro h8
  refine ⟨?_, ?_⟩
  ·intro h9
   (simp_all [FAlike_refl, FSame_refl]; done)
  refine ⟨⟨(x0.b)⟩, ?_⟩
  try dsimp only
  refine ⟨by (have e1 := h1.1; have e2 := h2.1; have e3 := h3.1; have e4 := h4.1; omega), by (simp; done), by rfl, by (simp; done), ?_⟩
  intro x9
  intro h10
  refine ⟨by trivial, by (simp; done), ?_⟩
  refine ask_p (bp_or bp_false (bp_not bp_id)) ?_ ?_
  ·intro h11
   refine ⟨by rfl, ?_⟩
   trivial
  intro h11
  refine ⟨⟨(x0.a), (x0.b)⟩, ?_⟩
  try dsimp only
  refine ⟨?_, ?_⟩
  ·refine ⟨by (have e1 := h1.1; have e2 := h2.1; have e3 := h3.1; have e4 := h4.1; omega), ?_⟩
   (have e1 := h1.1; have e2 := h2.1; have e3 := h3.1; have e4 := h4.1; omega)
  refine ⟨by (simp; done), by rfl, by (simp; done), by (simp; done), by rfl, by (simp; done), by trivial, ?_⟩
  refine ⟨⟨(x0.a), (x0.b)⟩, ?_⟩
  try dsimp only
  refine ⟨?_, ?_⟩
  ·refine ⟨by (have e1 := h1.1; have e2 := h2.1; have e3 := h3.1; have e4 := h4.1; omega), ?_⟩
   (have e1 := h1.1; have e2 := h2.1; have e3 := h3.1; have e4 := h4.1; omega)
  refine ⟨by (simp; done), by rfl, by (simp; done), by (simp; done), by rfl, by (simp; done), by trivial, ?_⟩
  intro q12 hq12; subst hq12
  refine ask_p bp_id ?_ ?_
  ·intro h13
   refine ⟨by (simp; done), ?_⟩
   refine ⟨⟨(x0.a)⟩, ?_⟩
   try dsimp only
   refine ⟨?_, ?_⟩
   ·refine ⟨by (have e1 := h1.1; have e2 := h2.1; have e3 := h3.1; have e4 := h4.1; omega), ?_⟩
    intro i14
    intro h15
    exact h1.2 _ (by assumption)
   refine ⟨by (simp; done), by rfl, by (simp; done), by trivial, by (simp; done), ?_⟩
   refine ⟨⟨(x0.a), (x0.a)⟩, ?_⟩
   try dsimp only
   refine ⟨?_, ?_⟩
   ·refine ⟨by (have e1 := h1.1; have e2 := h2.1; have e3 := h3.1; have e4 := h4.1; omega), ?_⟩
    (have e1 := h1.1; have e2 := h2.1; have e3 := h3.1; have e4 := h4.1; omega)
   refine ⟨by (simp; done), by rfl, by (simp; done), by (simp; done), by rfl, by (simp; done), by trivial, ?_⟩
   intro q14 hq14; subst hq14
   refine ⟨by (simp; done), by (simp; done), by (simp; done), by (simp; done), by (simp; done), by (simp; done), ?_⟩
   refine ask_p (bp_and bp_true bp_id) ?_ ?_
   ·intro ⟨h15, h16⟩
    refine ⟨?_, ?_⟩
    ·intro h17
     (simp_all [FAlike_refl, FSame_refl]; done)
    refine ⟨?_, ?_⟩
    ·intro h17
     (simp_all [FAlike_refl, FSame_refl]; done)
    refine ⟨⟨(x0.p), (x0.q)⟩, ?_⟩
    try dsimp only
    refine ⟨?_, ?_⟩
    ·refine ⟨by (have e1 := h1.1; have e2 := h2.1; have e3 := h3.1; have e4 := h4.1; omega), by (have e1 := h1.1; have e2 := h2.1; have e3 := h3.1; have e4 := h4.1; omega), ?_⟩
     intro i17
     intro h18
     exact h3.2 _ (by assumption)
    refine ⟨by rfl, by rfl, by (simp; done), by rfl, by (simp; done), by rfl, by rfl, by (simp; done), by rfl, by (simp; done), by trivial, by (simp; done), ?_⟩
    refine ⟨by (simp; done), by (simp; done), by (simp; done), by (simp; done), by (simp; done), by (simp; done), by (simp; done), ?_⟩
    refine ⟨⟨(x0.p), (x0.q)⟩, ?_⟩
    try dsimp only
    refine ⟨?_, ?_⟩
    ·refine ⟨by (have e1 := h1.1; have e2 := h2.1; have e3 := h3.1; have e4 := h4.1; omega), by (have e1 := h1.1; have e2 := h2.1; have e3 := h3.1; have e4 := h4.1; omega), ?_⟩
     intro i17
     intro h18
     exact h3.2 _ (by assumption)
    refine ⟨by rfl, by rfl, by (simp; done), by rfl, by (simp; done), by rfl, by rfl, by (simp; done), by rfl, by (simp; done), by trivial, by (simp; done), ?_⟩
    intro q17 hq17; subst hq17
    refine ⟨by (simp; done), by (simp; done), by (simp; done), by (simp; done), by (simp; done), by (simp; done), ?_⟩
    refine ask_p (bp_and bp_true bp_id) ?_ ?_
    ·intro ⟨h18, h19⟩
     refine ⟨by (simp; done), by (simp; done), ?_⟩
     refine ⟨⟨(x0.p), (x0.p)⟩, ?_⟩
     try dsimp only
     refine ⟨?_, ?_⟩
     ·refine ⟨by (have e1 := h1.1; have e2 := h2.1; have e3 := h3.1; have e4 := h4.1; omega), by (have e1 := h1.1; have e2 := h2.1; have e3 := h3.1; have e4 := h4.1; omega), ?_⟩
      intro i20
      intro h21
      exact h3.2 _ (by assumption)
     refine ⟨by rfl, by rfl, by (simp; done), by rfl, by (simp; done), by rfl, by rfl, by (simp; done), by rfl, by (simp; done), by trivial, ?_⟩
     intro q20 hq20; subst hq20
     refine ask_p (bp_and bp_true bp_id) ?_ ?_
     ·intro ⟨h21, h22⟩
      refine ⟨by rfl, ?_⟩
      trivial
     intro h21
     (simp_all [FAlike_refl, FSame_refl]; done)
    intro h18
    (simp_all [FAlike_refl, FSame_refl]; done)
   intro h15
   refine ⟨by (simp; done), by (simp; done), by (simp; done), by (simp; done), by (simp; done), by (simp; done), by rfl, by (simp; done), ?_⟩
   intro q16 hq16; subst hq16
   refine ⟨by (simp; done), by (simp; done), by (simp; done), by (simp; done), by (simp; done), by (simp; done), ?_⟩
   refine ask_p bp_false ?_ ?_
   ·intro h17
    exfalso; omega
   intro h17
   (simp_all [FAlike_refl, FSame_refl]; done)
  intro h13
  (simp_all [FAlike_refl, FSame_refl]; done)
 intro h8
 refine ⟨by rfl, ?_⟩
 trivial
end Go.Proofs
