/-
  CallsLong: the closed sentence returns true, whatever internal/bytealg.MaxLen holds, by a run of the abstract interpreter whose soundness is proved in the texts Eng.. of this folder; the card ties the listed variables by the given tie.
-/
import Derived.Test.YtcceecleljcfbaaGreatDoorRows
import Derived.Test.YtcceecleljcfbaaGreatDoorCards
import Derived.Test.YtcceecleljcfbaaGreatDoorTie
import Derived.WalkKit
import Derived.ProofKit
import Derived.OpenShut
import Derived.ShutString
import Derived.LaidMore
import Derived.SevenTiedAt
import Derived.Stop.Joined
import Derived.Test.YtcceecleljcfbaaGreatDoorEngLib
import Derived.Test.YtcceecleljcfbaaGreatDoorCallsLongEngFacts
namespace Go.Proofs.YtcceecleljcfbaaGreatDoor.callsLong
open Go.ChangeShapes Go.WideShapes Go.ChangeAt Go.RowKit
set_option linter.unusedVariables false

theorem own : ownKnob Tryz.prog.godebug = none := by kernel_rfl

theorem ran : ∀ m : Int, Eng.retTrue ((Eng.recM Tryz.cx (Eng.overIdx [81, 92] 0) (fun _ => false) 1000).call false 3 [] .run ⟨(Eng.T.nil).set 0 (.cells [.int .i64 m] 3 2 none), Tryz.cx.globals⟩) = true := fun m => by kernel_rfl

theorem walk (w : World) (hs : w.ShapedOpen Tryz.prog) : Calls Tryz.prog 3 #[] w fun e w' => e = .returned (.bool true) ∧ RowKit.Below w.heap.size w w' := by
  obtain ⟨m, cs, fr, hw, hv⟩ := Tryz.maxLen w hs
  refine Eng.closed_callG Tryz.cxOk (Eng.overIdx_ok (by decide) Tryz.indexOk) (fun _ => false) (ran m) w (Eng.rel_one (by decide) (by kernel_rfl) hw hv (fun _ => by simp [Eng.den]) (fun _ => by simp [Eng.Ok])) ?_
  intro i b h
  rw [Eng.T.get_set, Eng.T.get_nil] at h
  split at h
  · cases h; rfl
  · cases h

noncomputable abbrev start (os : Os) : World := Eng.laidAt (World.doorLaid Tryz.prog 200 os) 4 Rows.laid_unicode_utf8_first
theorem door_met (os : Os) (args : Array Value) : laidMetH Tryz.prog Rows.callsLongRow.laid ((start os).forCall (fun _ _ => 0) ⟨#[], args, []⟩).memory :=
  laidMetH_of_parts3 (fuel := 8) (laidMet_of_run' 8 (by kernel_rfl) (by kernel_rfl)) (by kernel_rfl) (by kernel_rfl)

set_option maxRecDepth 100000 in
theorem lifted (os : Os) (started : os.Started) (H : Type) (enc : TypeId × Value → H) :
    ReturnsInHanded {} Tryz.checked os 3 .any (fun w args => (Rows.callsLongSpec.pre enc Tryz.prog Tryz.f3 [] false w args ∧ laidMetH Tryz.prog Rows.callsLongRow.laid w) ∧ sizedMet enc Tryz.prog Tryz.f3 (OpenSpec.ofChange Rows.callsLongSpec) false w args)
      (Rows.callsLongSpec.post enc Tryz.prog Tryz.f3 false true false false) := by
  refine Eng.handed_of_change_andS (C := Tryz.checked) (X := fun w _ => laidMetH Tryz.prog Rows.callsLongRow.laid w) (fun _ _ _ hh h => h.of_heap hh) own started (by kernel_rfl) Tryz.func3
    (ChangeSpec.witness_shaped (enc := enc) (C := Tryz.checked) (os := os) (X := fun w _ => laidMetH Tryz.prog Rows.callsLongRow.laid w) false (start os) #[] 8 rfl (World.shaped_of_RefB (by kernel_rfl) (by kernel_rfl)) (by kernel_rfl) (by kernel_rfl) (by kernel_rfl) (door_met os _)) ?_
  intro W base args ds gs before hval0 hW hcnd _ hsh _ _
  have hW' := hW
  obtain ⟨p, q, hA0, hV, rfl, hfz, hnd⟩ := hW
  have hA : DataW.TrodAll enc Tryz.prog W 0 (fun _ => true) true Tryz.f3.params.toList args.toList ds p := hA0
  rw [Tryz.params3] at hA
  obtain ⟨rfl, rfl, rfl⟩ := trodAll_none hA
  obtain ⟨rfl, rfl⟩ := trodVars_none hV
  clear hA0 hval0
  simp only [List.append_nil] at hW'
  refine (walk W hsh).mono fun e W' ⟨he, hg⟩ => ?_
  subst he
  exact ⟨_, rfl, Eng.post_closed hW' (fun _ _ _ => (trodAll_cons_mk (shut_bool Tryz.underlying4 _) trodAll_mk0)) (fun sp => rfl) (fun _ => rfl)
    hg (ok_one (by kernel_rfl) rfl (okWide_bool_mk Tryz.underlying4 _))⟩

theorem over : Rows.callsLongRow.holds Tryz.pinned (OpenSpec.ofChange Rows.callsLongSpec) :=
  OpenClaim.holds_of_wide 3 Tryz.f3 rfl rfl rfl rfl rfl rfl rfl ⟨rfl, rfl, rfl, rfl, rfl⟩ rfl rfl rfl rfl rfl hfn Tryz.func3 facts
    (of_decide_eq_true (by kernel_rfl)) (by unfold Func.isWrapper; first | (rw [if_pos (by decide +kernel)]; kernel_rfl) | (rw [if_neg (by decide +kernel)]; exact ⟨rfl, rfl⟩))
    (fun os started H enc _ => lifted os started H enc)


/-- The statement: the tied card. -/
theorem proved : Rows.CallsLongCardSaid :=
  Claim7.holds_tied_plain_at .later [] [.data, .data, .data, .data, .sentinel, .sentinel, .pinned] true (true, "25796b7f4b0258359657c397729d1c88b34e2790042968019d9a532b768c8457") true
    over (fun _ h => by cases h) (by kernel_rfl) (fun _ h => by cases h) callsLong_row_tie rfl ⟨rfl, rfl⟩ (by kernel_rfl) rfl
    (fun f fn hf hfn => by
      obtain rfl : f = 3 := Option.some.inj ((show Tryz.prog.funcNamed "wicket/wicketlaw06.CallsLong" = some 3 by kernel_rfl).symm.trans hf) |>.symm
      obtain rfl : fn = Tryz.f3 := (Option.some.inj (Tryz.func3.symm.trans hfn)).symm
      exact ⟨by kernel_rfl, fun j t ht => by
        rw [Tryz.params3] at ht
        simp at ht⟩)
    (by kernel_rfl)
#print axioms proved
end Go.Proofs.YtcceecleljcfbaaGreatDoor.callsLong
