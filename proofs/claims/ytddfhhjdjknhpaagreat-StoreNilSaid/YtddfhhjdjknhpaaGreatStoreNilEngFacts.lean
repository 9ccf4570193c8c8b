/- StoreNil: the row's closed facts, one by one. -/
import Derived.Test.YtddfhhjdjknhpaaGreatRows
import Derived.JoinedOf
import Derived.KernelRfl
namespace Go.Proofs.YtddfhhjdjknhpaaGreat.storeNil
set_option linter.unusedVariables false

theorem hfn : Tryz.pinned.checked.prog.funcNamed Rows.storeNilRow.func = some 4 := by kernel_rfl
theorem fact0 : ((Rows.storeNilRow).wf (OpenSpec.ofChange (Rows.storeNilSpec)) : Bool) = true := by kernel_rfl
theorem fact1 : (laidOutB Tryz.prog : Bool) = true := by kernel_rfl
theorem fact2 : (mapsRowed Tryz.prog : Bool) = true := by kernel_rfl
theorem fact3 : (Tryz.f4.params.all (Tryz.prog.readableRec ·) : Bool) = true := by kernel_rfl
theorem fact4 : (namedTie Tryz.prog (Rows.storeNilRow).named (Rows.storeNilSpec).vars : Bool) = true := by kernel_rfl
theorem fact5 : (((Rows.storeNilRow).stops == []) : Bool) = true := by kernel_rfl
theorem fact6 : ((Tryz.prog.stops == []) : Bool) = true := by kernel_rfl
theorem fact7 : (((Rows.storeNilRow).knobs == []) : Bool) = true := by kernel_rfl
theorem fact8 : ((Tryz.prog.stopKnobs == []) : Bool) = true := by kernel_rfl
theorem fact9 : (((Rows.storeNilRow).inPlace == Tryz.prog.inPlace 4) : Bool) = true := by kernel_rfl
theorem fact10 : (((Rows.storeNilRow).unfollowed == Tryz.prog.unfollowed 4) : Bool) = true := by kernel_rfl
theorem fact11 : (((Rows.storeNilRow).recurses == Tryz.prog.recurses 4) : Bool) = true := by kernel_rfl
theorem fact12 : (((Rows.storeNilRow).named == Tryz.prog.varsNamed 4) : Bool) = true := by kernel_rfl
theorem fact13 : (((Rows.storeNilRow).maps == (Tryz.f4.params.toList ++ (Rows.storeNilSpec).plain.varTypes Tryz.prog).any (Tryz.prog.mapsRec ·)) : Bool) = true := by kernel_rfl
theorem fact14 : (((Rows.storeNilRow).ifaces == (Tryz.f4.params.toList ++ (Rows.storeNilSpec).plain.varTypes Tryz.prog).any (Tryz.prog.ifacesRec ·)) : Bool) = true := by kernel_rfl
theorem fact15 : (((Rows.storeNilRow).mapsOut == Tryz.prog.mapsAmong Tryz.f4.resultTypes.toList) : Bool) = true := by kernel_rfl
theorem fact16 : (((Rows.storeNilRow).loops == (Tryz.f4.params.toList ++ (Rows.storeNilSpec).plain.varTypes Tryz.prog).any (Tryz.prog.loopsFrom ·)) : Bool) = true := by kernel_rfl
theorem fact17 : (((Rows.storeNilRow).wideKeys == (Tryz.f4.params.toList ++ (Rows.storeNilSpec).plain.varTypes Tryz.prog ++ Tryz.f4.resultTypes.toList).any (Tryz.prog.wideKeysFrom ·)) : Bool) = true := by kernel_rfl
theorem fact18 : ((Rows.storeNilSpec).vars.all (Tryz.prog.varReadable ·) : Bool) = true := by kernel_rfl
theorem fact19 : (Tryz.f4.resultTypes.all (fun t => Tryz.prog.readableRec t && decide (t < Tryz.prog.types.size)) : Bool) = true := by kernel_rfl
theorem fact20 : (((Rows.storeNilRow).ifacesOut == Tryz.f4.resultTypes.toList.any (Tryz.prog.ifacesRec ·)) : Bool) = true := by kernel_rfl
theorem fact21 : (((Rows.storeNilRow).loopsOut == Tryz.f4.resultTypes.toList.any (Tryz.prog.loopsFrom ·)) : Bool) = true := by kernel_rfl
theorem fact22 : (((Rows.storeNilRow).plainKeys == Tryz.prog.plainKeys) : Bool) = true := by kernel_rfl
theorem fact23 : ((Rows.storeNilRow).shortTexts.isNone : Bool) = true := by kernel_rfl
theorem fact24 : (Tryz.prog.stopsHeard : Bool) = true := by kernel_rfl
theorem fact25 : (Tryz.prog.mayEnter : Bool) = true := by kernel_rfl
theorem fact26 : (((Rows.storeNilRow).lifted == Tryz.prog.liftsFinal) : Bool) = true := by kernel_rfl
theorem fact27 : ((Tryz.prog.make == some (Rows.storeNilRow).make) : Bool) = true := by kernel_rfl
theorem fact28 : (((Rows.storeNilRow).kinds == (if (Rows.storeNilRow).domain.isEmpty then [] else Tryz.f4.params.toList.map fun t => match Tryz.prog.underlying t with | some (.int k) => some k | _ => none)) : Bool) = true := by kernel_rfl
theorem fact29 : (((Rows.storeNilRow).pinned == (Rows.storeNilRow).pinnedBy) : Bool) = true := by kernel_rfl
theorem fact30 : (((Rows.storeNilRow).veiled == (Tryz.f4.params.toList ++ (Rows.storeNilSpec).plain.varTypes Tryz.prog ++ Tryz.f4.resultTypes.toList).any (Tryz.prog.veiledRec ·)) : Bool) = true := by kernel_rfl
theorem fact31 : ((Rows.storeNilRow).veiledFits Tryz.prog Tryz.f4.params.toList (Tryz.f4.params.toList ++ (Rows.storeNilSpec).plain.varTypes Tryz.prog ++ Tryz.f4.resultTypes.toList) : Bool) = true := by kernel_rfl
set_option maxRecDepth 100000 in
theorem facts : joinedFacts Tryz.prog 4 Tryz.f4 (Rows.storeNilSpec) (Rows.storeNilRow) = true :=
  (Bool.and_eq_true_iff.2 ⟨(Bool.and_eq_true_iff.2 ⟨(Bool.and_eq_true_iff.2 ⟨(Bool.and_eq_true_iff.2 ⟨(Bool.and_eq_true_iff.2 ⟨(Bool.and_eq_true_iff.2 ⟨(Bool.and_eq_true_iff.2 ⟨(Bool.and_eq_true_iff.2 ⟨(Bool.and_eq_true_iff.2 ⟨(Bool.and_eq_true_iff.2 ⟨(Bool.and_eq_true_iff.2 ⟨(Bool.and_eq_true_iff.2 ⟨(Bool.and_eq_true_iff.2 ⟨(Bool.and_eq_true_iff.2 ⟨(Bool.and_eq_true_iff.2 ⟨(Bool.and_eq_true_iff.2 ⟨(Bool.and_eq_true_iff.2 ⟨(Bool.and_eq_true_iff.2 ⟨(Bool.and_eq_true_iff.2 ⟨(Bool.and_eq_true_iff.2 ⟨(Bool.and_eq_true_iff.2 ⟨(Bool.and_eq_true_iff.2 ⟨(Bool.and_eq_true_iff.2 ⟨(Bool.and_eq_true_iff.2 ⟨(Bool.and_eq_true_iff.2 ⟨(Bool.and_eq_true_iff.2 ⟨(Bool.and_eq_true_iff.2 ⟨(Bool.and_eq_true_iff.2 ⟨(Bool.and_eq_true_iff.2 ⟨(Bool.and_eq_true_iff.2 ⟨(Bool.and_eq_true_iff.2 ⟨fact0, fact1⟩), fact2⟩), fact3⟩), fact4⟩), fact5⟩), fact6⟩), fact7⟩), fact8⟩), fact9⟩), fact10⟩), fact11⟩), fact12⟩), fact13⟩), fact14⟩), fact15⟩), fact16⟩), fact17⟩), fact18⟩), fact19⟩), fact20⟩), fact21⟩), fact22⟩), fact23⟩), fact24⟩), fact25⟩), fact26⟩), fact27⟩), fact28⟩), fact29⟩), fact30⟩), fact31⟩)

end Go.Proofs.YtddfhhjdjknhpaaGreat.storeNil
