/- DedupNil: the row's closed facts, one by one. -/
import Derived.Test.YtddfhhjdjknhpaaGreatRows
import Derived.JoinedOf
import Derived.KernelRfl
namespace Go.Proofs.YtddfhhjdjknhpaaGreat.dedupNil
set_option linter.unusedVariables false

theorem hfn : Tryz.pinned.checked.prog.funcNamed Rows.dedupNilRow.func = some 3 := by kernel_rfl
theorem fact0 : ((Rows.dedupNilRow).wf (OpenSpec.ofChange (Rows.dedupNilSpec)) : Bool) = true := by kernel_rfl
theorem fact1 : (laidOutB Tryz.prog : Bool) = true := by kernel_rfl
theorem fact2 : (mapsRowed Tryz.prog : Bool) = true := by kernel_rfl
theorem fact3 : (Tryz.f3.params.all (Tryz.prog.readableRec ·) : Bool) = true := by kernel_rfl
theorem fact4 : (namedTie Tryz.prog (Rows.dedupNilRow).named (Rows.dedupNilSpec).vars : Bool) = true := by kernel_rfl
theorem fact5 : (((Rows.dedupNilRow).stops == []) : Bool) = true := by kernel_rfl
theorem fact6 : ((Tryz.prog.stops == []) : Bool) = true := by kernel_rfl
theorem fact7 : (((Rows.dedupNilRow).knobs == []) : Bool) = true := by kernel_rfl
theorem fact8 : ((Tryz.prog.stopKnobs == []) : Bool) = true := by kernel_rfl
theorem fact9 : (((Rows.dedupNilRow).inPlace == Tryz.prog.inPlace 3) : Bool) = true := by kernel_rfl
theorem fact10 : (((Rows.dedupNilRow).unfollowed == Tryz.prog.unfollowed 3) : Bool) = true := by kernel_rfl
theorem fact11 : (((Rows.dedupNilRow).recurses == Tryz.prog.recurses 3) : Bool) = true := by kernel_rfl
theorem fact12 : (((Rows.dedupNilRow).named == Tryz.prog.varsNamed 3) : Bool) = true := by kernel_rfl
theorem fact13 : (((Rows.dedupNilRow).maps == (Tryz.f3.params.toList ++ (Rows.dedupNilSpec).plain.varTypes Tryz.prog).any (Tryz.prog.mapsRec ·)) : Bool) = true := by kernel_rfl
theorem fact14 : (((Rows.dedupNilRow).ifaces == (Tryz.f3.params.toList ++ (Rows.dedupNilSpec).plain.varTypes Tryz.prog).any (Tryz.prog.ifacesRec ·)) : Bool) = true := by kernel_rfl
theorem fact15 : (((Rows.dedupNilRow).mapsOut == Tryz.prog.mapsAmong Tryz.f3.resultTypes.toList) : Bool) = true := by kernel_rfl
theorem fact16 : (((Rows.dedupNilRow).loops == (Tryz.f3.params.toList ++ (Rows.dedupNilSpec).plain.varTypes Tryz.prog).any (Tryz.prog.loopsFrom ·)) : Bool) = true := by kernel_rfl
theorem fact17 : (((Rows.dedupNilRow).wideKeys == (Tryz.f3.params.toList ++ (Rows.dedupNilSpec).plain.varTypes Tryz.prog ++ Tryz.f3.resultTypes.toList).any (Tryz.prog.wideKeysFrom ·)) : Bool) = true := by kernel_rfl
theorem fact18 : ((Rows.dedupNilSpec).vars.all (Tryz.prog.varReadable ·) : Bool) = true := by kernel_rfl
theorem fact19 : (Tryz.f3.resultTypes.all (fun t => Tryz.prog.readableRec t && decide (t < Tryz.prog.types.size)) : Bool) = true := by kernel_rfl
theorem fact20 : (((Rows.dedupNilRow).ifacesOut == Tryz.f3.resultTypes.toList.any (Tryz.prog.ifacesRec ·)) : Bool) = true := by kernel_rfl
theorem fact21 : (((Rows.dedupNilRow).loopsOut == Tryz.f3.resultTypes.toList.any (Tryz.prog.loopsFrom ·)) : Bool) = true := by kernel_rfl
theorem fact22 : (((Rows.dedupNilRow).plainKeys == Tryz.prog.plainKeys) : Bool) = true := by kernel_rfl
theorem fact23 : ((Rows.dedupNilRow).shortTexts.isNone : Bool) = true := by kernel_rfl
theorem fact24 : (Tryz.prog.stopsHeard : Bool) = true := by kernel_rfl
theorem fact25 : (Tryz.prog.mayEnter : Bool) = true := by kernel_rfl
theorem fact26 : (((Rows.dedupNilRow).lifted == Tryz.prog.liftsFinal) : Bool) = true := by kernel_rfl
theorem fact27 : ((Tryz.prog.make == some (Rows.dedupNilRow).make) : Bool) = true := by kernel_rfl
theorem fact28 : (((Rows.dedupNilRow).kinds == (if (Rows.dedupNilRow).domain.isEmpty then [] else Tryz.f3.params.toList.map fun t => match Tryz.prog.underlying t with | some (.int k) => some k | _ => none)) : Bool) = true := by kernel_rfl
theorem fact29 : (((Rows.dedupNilRow).pinned == (Rows.dedupNilRow).pinnedBy) : Bool) = true := by kernel_rfl
theorem fact30 : (((Rows.dedupNilRow).veiled == (Tryz.f3.params.toList ++ (Rows.dedupNilSpec).plain.varTypes Tryz.prog ++ Tryz.f3.resultTypes.toList).any (Tryz.prog.veiledRec ·)) : Bool) = true := by kernel_rfl
theorem fact31 : ((Rows.dedupNilRow).veiledFits Tryz.prog Tryz.f3.params.toList (Tryz.f3.params.toList ++ (Rows.dedupNilSpec).plain.varTypes Tryz.prog ++ Tryz.f3.resultTypes.toList) : Bool) = true := by kernel_rfl
set_option maxRecDepth 100000 in
theorem facts : joinedFacts Tryz.prog 3 Tryz.f3 (Rows.dedupNilSpec) (Rows.dedupNilRow) = true :=
  (Bool.and_eq_true_iff.2 ⟨(Bool.and_eq_true_iff.2 ⟨(Bool.and_eq_true_iff.2 ⟨(Bool.and_eq_true_iff.2 ⟨(Bool.and_eq_true_iff.2 ⟨(Bool.and_eq_true_iff.2 ⟨(Bool.and_eq_true_iff.2 ⟨(Bool.and_eq_true_iff.2 ⟨(Bool.and_eq_true_iff.2 ⟨(Bool.and_eq_true_iff.2 ⟨(Bool.and_eq_true_iff.2 ⟨(Bool.and_eq_true_iff.2 ⟨(Bool.and_eq_true_iff.2 ⟨(Bool.and_eq_true_iff.2 ⟨(Bool.and_eq_true_iff.2 ⟨(Bool.and_eq_true_iff.2 ⟨(Bool.and_eq_true_iff.2 ⟨(Bool.and_eq_true_iff.2 ⟨(Bool.and_eq_true_iff.2 ⟨(Bool.and_eq_true_iff.2 ⟨(Bool.and_eq_true_iff.2 ⟨(Bool.and_eq_true_iff.2 ⟨(Bool.and_eq_true_iff.2 ⟨(Bool.and_eq_true_iff.2 ⟨(Bool.and_eq_true_iff.2 ⟨(Bool.and_eq_true_iff.2 ⟨(Bool.and_eq_true_iff.2 ⟨(Bool.and_eq_true_iff.2 ⟨(Bool.and_eq_true_iff.2 ⟨(Bool.and_eq_true_iff.2 ⟨(Bool.and_eq_true_iff.2 ⟨fact0, fact1⟩), fact2⟩), fact3⟩), fact4⟩), fact5⟩), fact6⟩), fact7⟩), fact8⟩), fact9⟩), fact10⟩), fact11⟩), fact12⟩), fact13⟩), fact14⟩), fact15⟩), fact16⟩), fact17⟩), fact18⟩), fact19⟩), fact20⟩), fact21⟩), fact22⟩), fact23⟩), fact24⟩), fact25⟩), fact26⟩), fact27⟩), fact28⟩), fact29⟩), fact30⟩), fact31⟩)

end Go.Proofs.YtddfhhjdjknhpaaGreat.dedupNil
