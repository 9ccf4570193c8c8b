namespace Go.Proofs
set_option linter.unusedVariables false
set_option linter.unusedSimpArgs false
abbrev Ty.api_Call : Nat := 24
abbrev Ty.api_Result : Nat := 28
abbrev Ty.api_Op : Nat := 39
abbrev Ty.api_Out : Nat := 56
abbrev Id.wicketlaw06_small : Nat := 4
abbrev Id.calls_Same : Nat := 6
abbrev Id.wicketref06_Same : Nat := 7
abbrev Id.wicketref06_Copy : Nat := 8
abbrev Id.calls_Alike : Nat := 9
abbrev Id.wicketref06_Alike : Nat := 10
end Go.Proofs
