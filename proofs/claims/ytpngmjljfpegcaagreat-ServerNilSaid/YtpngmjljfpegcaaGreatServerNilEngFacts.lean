/- ServerNil: the row's closed facts, one by one. -/
import Derived.Test.YtpngmjljfpegcaaGreatRows
import Derived.JoinedOf
import Derived.KernelRfl
namespace Go.Proofs.YtpngmjljfpegcaaGreat.serverNil
set_option linter.unusedVariables false

theorem hfn : Tryz.pinned.checked.prog.funcNamed Rows.serverNilRow.func = some 3 := by kernel_rfl
theorem fact0 : ((Rows.serverNilRow).wf (OpenSpec.ofChange (Rows.serverNilSpec)) : Bool) = true := by kernel_rfl
theorem fact1 : (laidOutB Tryz.prog : Bool) = true := by kernel_rfl
theorem fact2 : (mapsRowed Tryz.prog : Bool) = true := by kernel_rfl
theorem fact3 : (Tryz.f3.params.all (Tryz.prog.readableRec ·) : Bool) = true := by kernel_rfl
theorem fact4 : (namedTie Tryz.prog (Rows.serverNilRow).named (Rows.serverNilSpec).vars : Bool) = true := by kernel_rfl
theorem fact5 : (((Rows.serverNilRow).stops == []) : Bool) = true := by kernel_rfl
theorem fact6 : ((Tryz.prog.stops == []) : Bool) = true := by kernel_rfl
theorem fact7 : (((Rows.serverNilRow).knobs == []) : Bool) = true := by kernel_rfl
theorem fact8 : ((Tryz.prog.stopKnobs == []) : Bool) = true := by kernel_rfl
theorem fact9 : (((Rows.serverNilRow).inPlace == Tryz.prog.inPlace 3) : Bool) = true := by kernel_rfl
theorem fact10 : (((Rows.serverNilRow).unfollowed == Tryz.prog.unfollowed 3) : Bool) = true := by kernel_rfl
theorem fact11 : (((Rows.serverNilRow).recurses == Tryz.prog.recurses 3) : Bool) = true := by kernel_rfl
theorem fact12 : (((Rows.serverNilRow).named == Tryz.prog.varsNamed 3) : Bool) = true := by kernel_rfl
theorem fact13 : (((Rows.serverNilRow).maps == (Tryz.f3.params.toList ++ (Rows.serverNilSpec).plain.varTypes Tryz.prog).any (Tryz.prog.mapsRec ·)) : Bool) = true := by kernel_rfl
theorem fact14 : (((Rows.serverNilRow).ifaces == (Tryz.f3.params.toList ++ (Rows.serverNilSpec).plain.varTypes Tryz.prog).any (Tryz.prog.ifacesRec ·)) : Bool) = true := by kernel_rfl
theorem fact15 : (((Rows.serverNilRow).mapsOut == Tryz.prog.mapsAmong Tryz.f3.resultTypes.toList) : Bool) = true := by kernel_rfl
theorem fact16 : (((Rows.serverNilRow).loops == (Tryz.f3.params.toList ++ (Rows.serverNilSpec).plain.varTypes Tryz.prog).any (Tryz.prog.loopsFrom ·)) : Bool) = true := by kernel_rfl
theorem fact17 : (((Rows.serverNilRow).wideKeys == (Tryz.f3.params.toList ++ (Rows.serverNilSpec).plain.varTypes Tryz.prog ++ Tryz.f3.resultTypes.toList).any (Tryz.prog.wideKeysFrom ·)) : Bool) = true := by kernel_rfl
theorem fact18 : ((Rows.serverNilSpec).vars.all (Tryz.prog.varReadable ·) : Bool) = true := by kernel_rfl
theorem fact19 : (Tryz.f3.resultTypes.all (fun t => Tryz.prog.readableRec t && decide (t < Tryz.prog.types.size)) : Bool) = true := by kernel_rfl
theorem fact20 : (((Rows.serverNilRow).ifacesOut == Tryz.f3.resultTypes.toList.any (Tryz.prog.ifacesRec ·)) : Bool) = true := by kernel_rfl
theorem fact21 : (((Rows.serverNilRow).loopsOut == Tryz.f3.resultTypes.toList.any (Tryz.prog.loopsFrom ·)) : Bool) = true := by kernel_rfl
theorem fact22 : (((Rows.serverNilRow).plainKeys == Tryz.prog.plainKeys) : Bool) = true := by kernel_rfl
theorem fact23 : ((Rows.serverNilRow).shortTexts.isNone : Bool) = true := by kernel_rfl
theorem fact24 : (Tryz.prog.stopsHeard : Bool) = true := by kernel_rfl
theorem fact25 : (Tryz.prog.mayEnter : Bool) = true := by kernel_rfl
theorem fact26 : (((Rows.serverNilRow).lifted == Tryz.prog.liftsFinal) : Bool) = true := by kernel_rfl
theorem fact27 : ((Tryz.prog.make == some (Rows.serverNilRow).make) : Bool) = true := by kernel_rfl
theorem fact28 : (((Rows.serverNilRow).kinds == (if (Rows.serverNilRow).domain.isEmpty then [] else Tryz.f3.params.toList.map fun t => match Tryz.prog.underlying t with | some (.int k) => some k | _ => none)) : Bool) = true := by kernel_rfl
theorem fact29 : (((Rows.serverNilRow).pinned == (Rows.serverNilRow).pinnedBy) : Bool) = true := by kernel_rfl
theorem fact30 : (((Rows.serverNilRow).veiled == (Tryz.f3.params.toList ++ (Rows.serverNilSpec).plain.varTypes Tryz.prog ++ Tryz.f3.resultTypes.toList).any (Tryz.prog.veiledRec ·)) : Bool) = true := by kernel_rfl
theorem fact31 : ((Rows.serverNilRow).veiledFits Tryz.prog Tryz.f3.params.toList (Tryz.f3.params.toList ++ (Rows.serverNilSpec).plain.varTypes Tryz.prog ++ Tryz.f3.resultTypes.toList) : Bool) = true := by kernel_rfl
set_option maxRecDepth 100000 in
theorem facts : joinedFacts Tryz.prog 3 Tryz.f3 (Rows.serverNilSpec) (Rows.serverNilRow) = true :=
  (Bool.and_eq_true_iff.2 ⟨(Bool.and_eq_true_iff.2 ⟨(Bool.and_eq_true_iff.2 ⟨(Bool.and_eq_true_iff.2 ⟨(Bool.and_eq_true_iff.2 ⟨(Bool.and_eq_true_iff.2 ⟨(Bool.and_eq_true_iff.2 ⟨(Bool.and_eq_true_iff.2 ⟨(Bool.and_eq_true_iff.2 ⟨(Bool.and_eq_true_iff.2 ⟨(Bool.and_eq_true_iff.2 ⟨(Bool.and_eq_true_iff.2 ⟨(Bool.and_eq_true_iff.2 ⟨(Bool.and_eq_true_iff.2 ⟨(Bool.and_eq_true_iff.2 ⟨(Bool.and_eq_true_iff.2 ⟨(Bool.and_eq_true_iff.2 ⟨(Bool.and_eq_true_iff.2 ⟨(Bool.and_eq_true_iff.2 ⟨(Bool.and_eq_true_iff.2 ⟨(Bool.and_eq_true_iff.2 ⟨(Bool.and_eq_true_iff.2 ⟨(Bool.and_eq_true_iff.2 ⟨(Bool.and_eq_true_iff.2 ⟨(Bool.and_eq_true_iff.2 ⟨(Bool.and_eq_true_iff.2 ⟨(Bool.and_eq_true_iff.2 ⟨(Bool.and_eq_true_iff.2 ⟨(Bool.and_eq_true_iff.2 ⟨(Bool.and_eq_true_iff.2 ⟨(Bool.and_eq_true_iff.2 ⟨fact0, fact1⟩), fact2⟩), fact3⟩), fact4⟩), fact5⟩), fact6⟩), fact7⟩), fact8⟩), fact9⟩), fact10⟩), fact11⟩), fact12⟩), fact13⟩), fact14⟩), fact15⟩), fact16⟩), fact17⟩), fact18⟩), fact19⟩), fact20⟩), fact21⟩), fact22⟩), fact23⟩), fact24⟩), fact25⟩), fact26⟩), fact27⟩), fact28⟩), fact29⟩), fact30⟩), fact31⟩)

end Go.Proofs.YtpngmjljfpegcaaGreat.serverNil
