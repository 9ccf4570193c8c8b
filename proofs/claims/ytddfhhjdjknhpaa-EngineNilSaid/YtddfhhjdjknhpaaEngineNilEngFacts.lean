/- EngineNil: the row's closed facts, one by one. -/
import Derived.Test.YtddfhhjdjknhpaaRows
import Derived.JoinedOf
import Derived.KernelRfl
namespace Go.Proofs.Ytddfhhjdjknhpaa.engineNil
set_option linter.unusedVariables false

theorem hfn : Try.pinned.checked.prog.funcNamed Rows.engineNilRow.func = some 3 := by kernel_rfl
theorem fact0 : ((Rows.engineNilRow).wf (OpenSpec.ofChange (Rows.engineNilSpec)) : Bool) = true := by kernel_rfl
theorem fact1 : (laidOutB Try.prog : Bool) = true := by kernel_rfl
theorem fact2 : (mapsRowed Try.prog : Bool) = true := by kernel_rfl
theorem fact3 : (Try.f3.params.all (Try.prog.readableRec ·) : Bool) = true := by kernel_rfl
theorem fact4 : (namedTie Try.prog (Rows.engineNilRow).named (Rows.engineNilSpec).vars : Bool) = true := by kernel_rfl
theorem fact5 : (((Rows.engineNilRow).stops == []) : Bool) = true := by kernel_rfl
theorem fact6 : ((Try.prog.stops == []) : Bool) = true := by kernel_rfl
theorem fact7 : (((Rows.engineNilRow).knobs == []) : Bool) = true := by kernel_rfl
theorem fact8 : ((Try.prog.stopKnobs == []) : Bool) = true := by kernel_rfl
theorem fact9 : (((Rows.engineNilRow).inPlace == Try.prog.inPlace 3) : Bool) = true := by kernel_rfl
theorem fact10 : (((Rows.engineNilRow).unfollowed == Try.prog.unfollowed 3) : Bool) = true := by kernel_rfl
theorem fact11 : (((Rows.engineNilRow).recurses == Try.prog.recurses 3) : Bool) = true := by kernel_rfl
theorem fact12 : (((Rows.engineNilRow).named == Try.prog.varsNamed 3) : Bool) = true := by kernel_rfl
theorem fact13 : (((Rows.engineNilRow).maps == (Try.f3.params.toList ++ (Rows.engineNilSpec).plain.varTypes Try.prog).any (Try.prog.mapsRec ·)) : Bool) = true := by kernel_rfl
theorem fact14 : (((Rows.engineNilRow).ifaces == (Try.f3.params.toList ++ (Rows.engineNilSpec).plain.varTypes Try.prog).any (Try.prog.ifacesRec ·)) : Bool) = true := by kernel_rfl
theorem fact15 : (((Rows.engineNilRow).mapsOut == Try.prog.mapsAmong Try.f3.resultTypes.toList) : Bool) = true := by kernel_rfl
theorem fact16 : (((Rows.engineNilRow).loops == (Try.f3.params.toList ++ (Rows.engineNilSpec).plain.varTypes Try.prog).any (Try.prog.loopsFrom ·)) : Bool) = true := by kernel_rfl
theorem fact17 : (((Rows.engineNilRow).wideKeys == (Try.f3.params.toList ++ (Rows.engineNilSpec).plain.varTypes Try.prog ++ Try.f3.resultTypes.toList).any (Try.prog.wideKeysFrom ·)) : Bool) = true := by kernel_rfl
theorem fact18 : ((Rows.engineNilSpec).vars.all (Try.prog.varReadable ·) : Bool) = true := by kernel_rfl
theorem fact19 : (Try.f3.resultTypes.all (fun t => Try.prog.readableRec t && decide (t < Try.prog.types.size)) : Bool) = true := by kernel_rfl
theorem fact20 : (((Rows.engineNilRow).ifacesOut == Try.f3.resultTypes.toList.any (Try.prog.ifacesRec ·)) : Bool) = true := by kernel_rfl
theorem fact21 : (((Rows.engineNilRow).loopsOut == Try.f3.resultTypes.toList.any (Try.prog.loopsFrom ·)) : Bool) = true := by kernel_rfl
theorem fact22 : (((Rows.engineNilRow).plainKeys == Try.prog.plainKeys) : Bool) = true := by kernel_rfl
theorem fact23 : ((Rows.engineNilRow).shortTexts.isNone : Bool) = true := by kernel_rfl
theorem fact24 : (Try.prog.stopsHeard : Bool) = true := by kernel_rfl
theorem fact25 : (Try.prog.mayEnter : Bool) = true := by kernel_rfl
theorem fact26 : (((Rows.engineNilRow).lifted == Try.prog.liftsFinal) : Bool) = true := by kernel_rfl
theorem fact27 : ((Try.prog.make == some (Rows.engineNilRow).make) : Bool) = true := by kernel_rfl
theorem fact28 : (((Rows.engineNilRow).kinds == (if (Rows.engineNilRow).domain.isEmpty then [] else Try.f3.params.toList.map fun t => match Try.prog.underlying t with | some (.int k) => some k | _ => none)) : Bool) = true := by kernel_rfl
theorem fact29 : (((Rows.engineNilRow).pinned == (Rows.engineNilRow).pinnedBy) : Bool) = true := by kernel_rfl
theorem fact30 : (((Rows.engineNilRow).veiled == (Try.f3.params.toList ++ (Rows.engineNilSpec).plain.varTypes Try.prog ++ Try.f3.resultTypes.toList).any (Try.prog.veiledRec ·)) : Bool) = true := by kernel_rfl
theorem fact31 : ((Rows.engineNilRow).veiledFits Try.prog Try.f3.params.toList (Try.f3.params.toList ++ (Rows.engineNilSpec).plain.varTypes Try.prog ++ Try.f3.resultTypes.toList) : Bool) = true := by kernel_rfl
set_option maxRecDepth 100000 in
theorem facts : joinedFacts Try.prog 3 Try.f3 (Rows.engineNilSpec) (Rows.engineNilRow) = true :=
  (Bool.and_eq_true_iff.2 ⟨(Bool.and_eq_true_iff.2 ⟨(Bool.and_eq_true_iff.2 ⟨(Bool.and_eq_true_iff.2 ⟨(Bool.and_eq_true_iff.2 ⟨(Bool.and_eq_true_iff.2 ⟨(Bool.and_eq_true_iff.2 ⟨(Bool.and_eq_true_iff.2 ⟨(Bool.and_eq_true_iff.2 ⟨(Bool.and_eq_true_iff.2 ⟨(Bool.and_eq_true_iff.2 ⟨(Bool.and_eq_true_iff.2 ⟨(Bool.and_eq_true_iff.2 ⟨(Bool.and_eq_true_iff.2 ⟨(Bool.and_eq_true_iff.2 ⟨(Bool.and_eq_true_iff.2 ⟨(Bool.and_eq_true_iff.2 ⟨(Bool.and_eq_true_iff.2 ⟨(Bool.and_eq_true_iff.2 ⟨(Bool.and_eq_true_iff.2 ⟨(Bool.and_eq_true_iff.2 ⟨(Bool.and_eq_true_iff.2 ⟨(Bool.and_eq_true_iff.2 ⟨(Bool.and_eq_true_iff.2 ⟨(Bool.and_eq_true_iff.2 ⟨(Bool.and_eq_true_iff.2 ⟨(Bool.and_eq_true_iff.2 ⟨(Bool.and_eq_true_iff.2 ⟨(Bool.and_eq_true_iff.2 ⟨(Bool.and_eq_true_iff.2 ⟨(Bool.and_eq_true_iff.2 ⟨fact0, fact1⟩), fact2⟩), fact3⟩), fact4⟩), fact5⟩), fact6⟩), fact7⟩), fact8⟩), fact9⟩), fact10⟩), fact11⟩), fact12⟩), fact13⟩), fact14⟩), fact15⟩), fact16⟩), fact17⟩), fact18⟩), fact19⟩), fact20⟩), fact21⟩), fact22⟩), fact23⟩), fact24⟩), fact25⟩), fact26⟩), fact27⟩), fact28⟩), fact29⟩), fact30⟩), fact31⟩)

end Go.Proofs.Ytddfhhjdjknhpaa.engineNil
