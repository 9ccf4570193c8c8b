/- The abstract interpreter: short names for states that are written down; pieces of a run are joined. -/
import Derived.Test.YtomadfkddfbcoaaGreatEngStep
import Derived.Test.YtomadfkddfbcoaaGreatEngTop
noncomputable section
namespace Go.Eng
set_option linter.unusedSimpArgs false
set_option linter.unusedVariables false

abbrev I (n : Nat) : Value := .int .i64 n
abbrev B (n : Nat) : Value := .int .u8 n
abbrev U (n : Nat) : Value := .int .u64 n
abbrev P (a o : Nat) : Value := .pointer (some ⟨a, o, none⟩)
abbrev P0 : Value := .pointer none
abbrev S (a o l c : Nat) : Value := .slice (some ⟨a, o, none⟩) l c
abbrev S0 : Value := .slice none 0 0
abbrev F0 : Value := .nilIface
abbrev bT : Value := .bool true
abbrev bF : Value := .bool false
abbrev Z {α : Type} : T α := .nil
abbrev L {α : Type} (v : α) : T α := .node .nil (some v) .nil
abbrev N {α : Type} (l : T α) (v : α) (r : T α) : T α := .node l (some v) r
def BS : List Nat → List Value
  | [] => []
  | n :: r => .int .u8 n :: BS r
abbrev C0 (vs : List Value) (t : Nat) : Blk := .cells vs t 0 none

def subCode : Code → List Nat → Code
  | c, [] => c
  | .seq a b, i :: p => match i with
    | 0 => subCode a p
    | _ => subCode b p
  | .cond _ a b, i :: p => match i with
    | 0 => subCode a p
    | _ => subCode b p
  | .block _ b, _ :: p => subCode b p
  | .loop b, _ :: p => subCode b p
  | .scope b, _ :: p => subCode b p
  | .rangeFunc _ _ a b, i :: p => match i with
    | 0 => subCode a p
    | _ => subCode b p
  | c, _ => c
def fnAt (K : Cx) (f : Nat) : Func := match K.funcs.get f with
  | some fn => fn
  | none => default
def codeAt (K : Cx) (f : Nat) (p : List Nat) : Code := match (fnAt K f).body with
  | some c => subCode c p
  | none => .skip
def opsAt (K : Cx) (f : Nat) (p : List Nat) : List Oper := match codeAt K f p with
  | .region _ ops _ => ops.toList
  | _ => []

def rgAt (K : Cx) (f : Nat) (p : List Nat) (e : E) : Rg := match closA (opsAt K f p) 0 .nil, dstA (opsAt K f p) 0 .nil with
  | some cls, some dm => ⟨opsAt K f p, dm, cls, e⟩
  | _, _ => ⟨[], .nil, .nil, e⟩
def pendAt (K : Cx) (f : Nat) (p : List Nat) : List Nat → List (Nat × Oper)
  | [] => []
  | j :: r => match nth (opsAt K f p) j with
    | some o => (j, o) :: pendAt K f p r
    | none => []

/-- A call begins. -/
def start (K : Cx) (f n : Nat) : Cfg := .code (codeAt K f []) [] n ⟨f, false, none⟩ { tmps := .nil, n := (fnAt K f).ntmps, defers := [] } .run ⟨.nil, K.globals⟩ [.body f (fnAt K f) n]

theorem start_den {K : Cx} {f n : Nat} {fn : Func} {c : Code} (h1 : K.funcs.get f = some fn) (h2 : fn.body = some c) : den' K (start K f n) = (recOf K (n + 1)).call false f [] .run ⟨.nil, K.globals⟩ := by
  have e1 : fnAt K f = fn := by unfold fnAt; rw [h1]
  have e2 : codeAt K f [] = c := by
    unfold codeAt
    rw [e1, h2]
    cases c <;> rfl
  show denC K [.body f (fnAt K f) n] (codeA K (recOf K n) n ⟨f, false, none⟩ (codeAt K f []) _ .run _) = callA K (recOf K n) n false f [] .run _
  rw [e1, e2]
  have e3 : Nat.ble ([] : List Value).length fn.ntmps = true := by simp
  simp only [callA, h1, h2, e3, cond_true, argsT, denC, denF, bodyC]
  cases codeA K (recOf K n) n ⟨f, false, none⟩ c { tmps := .nil, n := fn.ntmps, defers := [] } .run ⟨.nil, K.globals⟩ with
  | fail => rfl
  | fin x e u s => cases x <;> rfl

def doneTrue : Cfg → Bool
  | .fout (.returned (.bool true) _ _) [] => true
  | _ => false

theorem done_den {K : Cx} {c : Cfg} (h : doneTrue c = true) : ∃ u s, den' K c = .returned (.bool true) u s := by
  unfold doneTrue at h
  split at h
  · exact ⟨_, _, rfl⟩
  · cases h

theorem back_den {K : Cx} {n : Nat} {c c' : Cfg} (h : stepN K n c = c') (hr : ∃ u s, den' K c' = .returned (.bool true) u s) : ∃ u s, den' K c = .returned (.bool true) u s := by
  obtain ⟨u, s, hr⟩ := hr
  subst h
  rcases stepN_den K n c with h | h
  · exact ⟨u, s, h.symm.trans hr⟩
  · rw [h] at hr; cases hr

theorem start_ret {K : Cx} {f n : Nat} (hb : ((K.funcs.get f).bind (·.body)).isSome = true) (h : ∃ u s, den' K (start K f n) = .returned (.bool true) u s) :
    retTrue ((recOf K (n + 1)).call false f [] .run ⟨.nil, K.globals⟩) = true := by
  cases h1 : K.funcs.get f with
  | none => rw [h1] at hb; cases hb
  | some fn =>
    rw [h1] at hb
    cases h2 : fn.body with
    | none => simp only [Option.bind, h2] at hb; cases hb
    | some c =>
      obtain ⟨u, s, h⟩ := h
      rw [start_den h1 h2] at h
      rw [h]
      rfl

end Go.Eng
end
