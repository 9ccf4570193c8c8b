import Derived.Test.YtoiobpicaonamaaGreatDoorCallsSameSA
namespace Go.Proofs
set_option linter.unusedSimpArgs false
open Go.Eng
set_option linter.unusedVariables false
structure XC where
  a : MCall
structure XIt where
  i : Nat
  t : Int
noncomputable def sp_small : FSpec where
  X := XC
  pre x := x.a.n < 1099511627776
  args x := [.agg [opsV 0 x.a]]
  base := []
  own _ := []
  out x := .ex Bool (fun _ => True) fun b => .ret (.bool b) []
noncomputable def an_small (x : XC) : Nat → Option Cut
  | 0 => some { X := XIt, pre := fun y => y.i ≤ x.a.n
                tm := fun y => [(1, .ptr 0 0 0 0), (3, .int .i64 y.t), (4, .int .i64 y.i)]
                own := fun y => [(0, .cells [opsV 0 x.a] Ty.api_Call)]
                mu := fun y => x.a.n - y.i }
  | _ => none
def vc_small : Prop := FnVC Tryz.cy [] Id.wicketlaw06_small sp_small an_small 10
noncomputable def FOpSmall (o : MOp) : Prop := o.key.length < 1048577 ∧ o.value.length < 1048577 ∧ o.old.length < 1048577 ∧ o.to.length < 1048577
theorem leL_opC (r : Nat) (o : MOp) : leL (opC r o) (opC r o) := by
  simp [leL, leV, leR, opC]
def cutOp (o : MOp) : List SV := [.int .i64 o.kind, .str o.table, .bytes 1 false (cutL o.key 0 o.key.length), .bytes 1 false (cutL o.value 0 o.value.length), .bool o.has, .bytes 1 false (cutL o.old 0 o.old.length), .bytes 1 false (cutL o.to 0 o.to.length), .int .i64 o.most]
theorem Copy_elem (f : Nat → MOp) (i j : Nat) (g : Nat → List SV) (h : j < i + 1) (hg : g 0 = opC 1 (f i)) : leL (opC 1 (f j)) (appF i (fun k => opC 1 (f (0 + k))) g j) := by
  unfold appF
  by_cases e : j < i
  · rw [show Nat.blt j i = true from by rw [Nat.blt_eq]; exact e]
    simp only [cond_true, Nat.zero_add]
    exact leL_opC 1 _
  · obtain rfl : j = i := by omega
    rw [show Nat.blt j j = false from by rw [← Bool.not_eq_true, Nat.blt_eq]; omega]
    simp only [cond_false, Nat.sub_self, hg]
    exact leL_opC 1 _
noncomputable def sp_Copy : FSpec where
  X := XC
  pre x := x.a.n < 1048577 ∧ ∀ i, i < x.a.n → FOpSmall (x.a.f i)
  args x := [.agg [opsV 0 x.a]]
  base := []
  own _ := []
  out x := .ret (.agg [opsV 1 x.a]) []
noncomputable def an_Copy (x : XC) : Nat → Option Cut
  | 0 => some { X := XIx, pre := fun y => y.i ≤ x.a.n
                tm := fun y => [(1, .ptr 0 0 0 0), (2, .ptr 1 0 0 0), (3, .ptr 2 0 0 0), (4, .int .i64 y.i)]
                own := fun y => [(0, .cells [opsV 0 x.a] Ty.api_Call), (1, .cells [.nilS] Ty.api_Call), (2, .cells [.sl 3 8 0 y.i y.i true] Ty.api_Call), (3, .arr y.i 8 (fun j => opC 1 (x.a.f j)) Ty.api_Op)]
                mu := fun y => x.a.n - y.i }
  | _ => none
def vc_Copy : Prop := FnVC Tryz.cy [] Id.wicketref06_Copy sp_Copy an_Copy 10
structure XRR where
  a : MRes
  b : MRes
structure XIJ where
  i : Nat
  j : Nat
noncomputable def sp_Alike : FSpec where
  X := XRR
  pre x := x.a.n < 1099511627776 ∧ x.b.n < 1099511627776 ∧ ∀ i, i < x.a.n → (x.a.f i).n < 1099511627776
  args x := [.agg (resC 0 x.a), .agg (resC 0 x.b)]
  base := []
  own _ := []
  out x := .ret (.bool (FAlike x.a x.b)) []
def FResHd (a b : MRes) : Prop := a.abort = b.abort ∧ a.place = b.place ∧ a.n = b.n
def FOutHd (a b : MOut) : Prop := a.has = b.has ∧ a.value = b.value ∧ a.n = b.n
theorem FAlike_yes {a b : MRes} (h : FResEq a b) : FAlike a b = true := FAlike_true.2 h
theorem FAlike_no {a b : MRes} (h : ¬ FResEq a b) : FAlike a b = false := by
  cases e : FAlike a b with
  | false => rfl
  | true => exact absurd (FAlike_true.1 e) h
theorem FOutHd_of {a b : MOut} (h1 : a.has = b.has) (h2 : a.value = b.value) (h3 : a.n = b.n) : FOutHd a b := ⟨h1, h2, h3⟩
theorem FOutEq_of {a b : MOut} (h : FOutHd a b) {k : Nat} (hk : ¬ ((k : Int) < (a.n : Int))) (h2 : ∀ j, j < k → FRowEq (a.f j) (b.f j)) : FOutEq a b :=
  ⟨h.1, h.2.1, h.2.2, fun j hj => h2 j (by omega)⟩
theorem FResEq_of {a b : MRes} (h : FResHd a b) {k : Nat} (hk : ¬ ((k : Int) < (a.n : Int))) (h2 : ∀ j, j < k → FOutEq (a.f j) (b.f j)) : FResEq a b :=
  ⟨h.1, h.2.1, h.2.2, fun j hj => h2 j (by omega)⟩
noncomputable def an_calls_Alike (x : XRR) : Nat → Option Cut
  | 0 => some { X := XIx, pre := fun y => y.i ≤ x.a.n ∧ FResHd x.a x.b ∧ ∀ j, j < y.i → FOutEq (x.a.f j) (x.b.f j)
                tm := fun y => [(2, .ptr 0 0 0 0), (3, .ptr 1 0 0 0), (31, outsV 0 x.a), (32, .int .i64 x.a.n), (33, .int .i64 y.i)]
                own := fun y => [(0, .cells (resC 0 x.a) Ty.api_Result), (1, .cells (resC 0 x.b) Ty.api_Result)]
                mu := fun y => x.a.n - y.i }
  | 2 => some { X := XIJ, R := Nat, rel := some fun r y => r = y.i, pre := fun y => y.i < x.a.n ∧ FResHd x.a x.b ∧ (∀ j, j < y.i → FOutEq (x.a.f j) (x.b.f j)) ∧ y.j ≤ (x.a.f y.i).n ∧ (x.a.f y.i).n < 1099511627776 ∧ FOutHd (x.a.f y.i) (x.b.f y.i) ∧ ∀ j, j < y.j → FRowEq ((x.a.f y.i).f j) ((x.b.f y.i).f j)
                tm := fun y => [(2, .ptr 0 0 0 0), (3, .ptr 1 0 0 0), (31, outsV 0 x.a), (32, .int .i64 x.a.n), (33, .int .i64 y.i), (5, .int .i64 y.i), (6, .ptr 2 0 0 0), (7, .ptr 3 0 0 0),
                  (66, .imm 0 false (x.a.f y.i).n 2 (fun k => rowC 0 ((x.a.f y.i).f k))), (67, .int .i64 (x.a.f y.i).n), (68, .int .i64 y.j)]
                own := fun y => [(0, .cells (resC 0 x.a) Ty.api_Result), (1, .cells (resC 0 x.b) Ty.api_Result), (2, .cells (outC 0 (x.a.f y.i)) Ty.api_Out), (3, .cells (outC 0 (x.b.f y.i)) Ty.api_Out)]
                mu := fun y => (x.a.f y.i).n - y.j }
  | _ => none
def vc_calls_Alike : Prop := FnVC Tryz.cy [] Id.calls_Alike sp_Alike an_calls_Alike 10
end Go.Proofs
