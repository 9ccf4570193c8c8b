/- The abstract interpreter: a closed call. -/
import Derived.Test.YtcceecleljcfbaaGreatDoorEngDraw6
import Derived.Below
import Derived.ChangeSame
namespace Go.Eng
open Go.RowKit Go.ChangeShapes
set_option linter.unusedVariables false
set_option linter.unusedSimpArgs false

def retTrue : FOut → Bool
  | .returned (.bool true) _ _ => true
  | _ => false

/-- A call without arguments, of which the interpreter says that it returns true. -/
theorem closed_call {C : Cx} {P : Program} (hC : CxOk C P) {n f : Nat} (h : retTrue ((recOf C n).call false f [] .run ⟨.nil, C.globals⟩) = true) (w : World) :
    Calls P f #[] w fun e w' => e = .returned (.bool true) ∧ Below w.heap.size w w' := by
  have hI : Inv C (fun g => ⟨g, 0, 0⟩) (fun i => i < C.globals) ⟨.nil, C.globals⟩ w :=
    ⟨⟨fun i b h => (by rw [T.get_nil] at h; cases h), fun i b h => (by rw [T.get_nil] at h; cases h), fun i j bi bj h => (by rw [T.get_nil] at h; cases h), fun g hg => ⟨hg, rfl⟩⟩, fun i h => h⟩
  have hcall := (recOf_sound hC n).call f [] ⟨.nil, C.globals⟩ _ _ w hI trivial
  generalize (recOf C n).call false f [] .run ⟨.nil, C.globals⟩ = out at h hcall
  cases out with
  | returned v u s' =>
    have hv : v = .bool true := by
      cases v with
      | bool b => cases b with
        | true => rfl
        | false => simp [retTrue] at h
      | _ => simp [retTrue] at h
    subst hv
    intro cs
    obtain ⟨φ', D', w', fr, h1, h2, h3, h4, h5, h6⟩ := hcall cs
    refine ⟨.returned (.bool true), w', fr, ⟨rfl, ⟨h2.os, h2.tape, h2.output, h2.size, fun k hk => h2.frame k hk fun i bi hi => (by rw [T.get_nil] at hi; cases hi)⟩⟩, ?_, h5, ?_⟩
    · simpa [denL, Comes] using h4
    · simpa [den] using h6
  | panicked ch u s' => simp [retTrue] at h
  | fail => simp [retTrue] at h

/-- A closed law's end: nothing was asked, nothing that stood has turned. -/
theorem post_closed {H : Type} {P : Program} {enc : TypeId × Value → H} {f : Func} {s : ChangeSpec} {apart fresh handsOn again : Bool} {W W' : World} {args : Array Value} {v : Value} {ds gs : List (DataW H)}
    (hW : DataW.Whole enc P f.params.toList s.vars apart W args.toList ds gs [])
    (hres : ∀ (b : Nat) (sp : Nat → Bool) (hd : Bool), DataW.TrodAll enc P W' b sp hd f.resultTypes.toList (v.resultList f.resultTypes.size) (s.fn H (ds ++ gs)).results [])
    (hargs : ∀ sp : Nat → Bool, DataW.TrodAll enc P W' 0 sp true f.params.toList args.toList (s.fn H (ds ++ gs)).args [])
    (hvars : ∀ sp : Nat → Bool, DataW.TrodVars enc P W' sp s.vars (s.fn H (ds ++ gs)).vars [])
    (hk : Below W.heap.size W W')
    (hok : ∀ (j : Nat) (t : TypeId) (r : Value), f.resultTypes[j]? = some t → (v.resultList f.resultTypes.size)[j]? = some r → Value.okWide P W' .any 0 t r) :
    s.post enc P f apart fresh handsOn again W args v W' := by
  refine ⟨ds, gs, [], [], [], [], hW, hres _ _ _, hargs _, hvars _, hk.frame _, fun _ => ?_⟩
  obtain ⟨_, _, _, _, _, hz, hn⟩ := hW
  exact ⟨hok, _, _, ([] ++ []) ++ [], ⟨[] ++ [], [], trodAll_append (hargs _) (hres _ _ _), hvars _, rfl, (fun b off hp => by simp at hp), (fun _ => by simp)⟩, (fun p hp _ => by simp at hp)⟩

end Go.Eng
