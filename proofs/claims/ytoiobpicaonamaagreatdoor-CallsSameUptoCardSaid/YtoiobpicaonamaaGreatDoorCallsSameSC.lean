import Derived.Test.YtoiobpicaonamaaGreatDoorCallsSameSB
namespace Go.Proofs
set_option linter.unusedSimpArgs false
open Go.Eng
set_option linter.unusedVariables false
noncomputable def an_ref_Alike (x : XRR) : Nat → Option Cut
  | 0 => some { X := XIx, pre := fun y => y.i ≤ x.a.n ∧ FResHd x.a x.b ∧ ∀ j, j < y.i → FOutEq (x.a.f j) (x.b.f j)
                tm := fun y => [(2, .ptr 0 0 0 0), (3, .ptr 1 0 0 0), (5, .int .i64 y.i)]
                own := fun y => [(0, .cells (resC 0 x.a) Ty.api_Result), (1, .cells (resC 0 x.b) Ty.api_Result)]
                mu := fun y => x.a.n - y.i }
  | 2 => some { X := XIJ, R := Nat, rel := some fun r y => r = y.i, pre := fun y => y.i < x.a.n ∧ FResHd x.a x.b ∧ (∀ j, j < y.i → FOutEq (x.a.f j) (x.b.f j)) ∧ y.j ≤ (x.a.f y.i).n ∧ (x.a.f y.i).n < 1099511627776 ∧ FOutHd (x.a.f y.i) (x.b.f y.i) ∧ ∀ j, j < y.j → FRowEq ((x.a.f y.i).f j) ((x.b.f y.i).f j)
                tm := fun y => [(2, .ptr 0 0 0 0), (3, .ptr 1 0 0 0), (5, .int .i64 y.i), (6, .ptr 2 0 0 0), (7, .ptr 3 0 0 0), (8, .int .i64 y.j)]
                own := fun y => [(0, .cells (resC 0 x.a) Ty.api_Result), (1, .cells (resC 0 x.b) Ty.api_Result), (2, .cells (outC 0 (x.a.f y.i)) Ty.api_Out), (3, .cells (outC 0 (x.b.f y.i)) Ty.api_Out)]
                mu := fun y => (x.a.f y.i).n - y.j }
  | _ => none
def vc_ref_Alike : Prop := FnVC Tryz.cy [] Id.wicketref06_Alike sp_Alike an_ref_Alike 10
structure XL where
  a : MCall
  b : MCall
  p : MRes
  q : MRes
def FCallOk (c : MCall) : Prop := c.n < 1048577 ∧ ∀ i, i < c.n → FOpSmall (c.f i)
def FResOk (r : MRes) : Prop := r.n < 1099511627776 ∧ ∀ i, i < r.n → (r.f i).n < 1099511627776
theorem FSame_refl (a : MCall) : FSame a a = true := FSame_yes ⟨rfl, fun i _ => ⟨rfl, rfl, rfl, rfl, rfl, rfl, rfl, rfl⟩⟩
theorem FAlike_refl (a : MRes) : FAlike a a = true := FAlike_yes ⟨rfl, rfl, rfl, fun i _ => ⟨rfl, rfl, rfl, fun j _ => ⟨rfl, rfl⟩⟩⟩
noncomputable def sp_law : FSpec where
  X := XL
  pre x := FCallOk x.a ∧ FCallOk x.b ∧ FResOk x.p ∧ FResOk x.q
  args x := [.agg [opsV 0 x.a], .agg [opsV 0 x.b], .agg [.int .i64 x.p.abort, .int .i64 x.p.place, outsV 0 x.p, .int .i64 x.q.abort, .int .i64 x.q.place, outsV 0 x.q]]
  base := []
  own _ := []
  out x := .ret (.bool true) []
noncomputable def Sp_law : List (Nat × FSpec) := [(4, sp_small), (6, sp_Same), (7, sp_Same), (8, sp_Copy), (9, sp_Alike), (10, sp_Alike)]
def vc_law : Prop := FnVC Tryz.cy Sp_law 3 sp_law (fun _ _ => none) 10
end Go.Proofs
