/- The abstract interpreter: the tables of a program. -/
import Derived.Test.YtcceecleljcfbaaGreatDoorEngTop
namespace Go.Eng
set_option linter.unusedSimpArgs false
set_option linter.unusedVariables false

def T.bound {α : Type} : T α → Nat
  | .nil => 0
  | .node l _ r => 1 + 2 * max l.bound r.bound

theorem T.lt_bound {α : Type} : ∀ (t : T α) (n : Nat) (a : α), t.get n = some a → n < t.bound
  | .nil, n, a, h => by rw [T.get_nil] at h; cases h
  | .node l v r, n, a, h => by
    cases n with
    | zero => simp only [T.bound]; omega
    | succ m =>
      rw [T.get_succ] at h
      cases hb : Nat.beq (m % 2) 0 with
      | true =>
        rw [hb] at h
        have := T.lt_bound l (m / 2) a h
        have := Nat.eq_of_beq_eq_true hb
        simp only [T.bound]; omega
      | false =>
        rw [hb] at h
        have := T.lt_bound r (m / 2) a h
        have := Nat.ne_of_beq_eq_false hb
        simp only [T.bound]; omega

/-- The table's entries, told one by one, are the program's. -/
theorem table_of {α : Type} {t : T α} {A : Nat → Option α} {b : Nat} (hb : Nat.ble t.bound b = true) (h : (List.range b).map t.get = (List.range b).map A) (n : Nat) (a : α) (hn : t.get n = some a) : A n = some a := by
  have hl : n < b := Nat.lt_of_lt_of_le (T.lt_bound t n a hn) (Nat.le_of_ble_eq_true hb)
  have := congrArg (·[n]?) h
  simp only [List.getElem?_map, List.getElem?_range hl, Option.map_some, Option.some.injEq] at this
  rw [← this, hn]

def T.allB {α : Type} (p : α → Bool) : T α → Bool
  | .nil => true
  | .node l v r => (match v with
    | some a => p a
    | none => true) && (T.allB p l && T.allB p r)

theorem T.allB_get {α : Type} {p : α → Bool} : ∀ (t : T α) (n : Nat) (a : α), T.allB p t = true → t.get n = some a → p a = true
  | .nil, n, a, _, h => by rw [T.get_nil] at h; cases h
  | .node l v r, n, a, hp, h => by
    simp only [T.allB, Bool.and_eq_true] at hp
    cases n with
    | zero =>
      rw [T.get_zero] at h
      subst h
      exact hp.1
    | succ m =>
      rw [T.get_succ] at h
      cases hb : Nat.beq (m % 2) 0 with
      | true => rw [hb] at h; exact T.allB_get l (m / 2) a hp.2.1 h
      | false => rw [hb] at h; exact T.allB_get r (m / 2) a hp.2.2 h

def zeroB (i : TypeInfo) : Bool :=
  match i.zero with
  | some z => Nat.beq z.cells.size i.size
  | none => true
def nameB (fn : Func) : Bool := !fn.body.isSome || !(fn.name == "runtime.NumGoroutine")

theorem cxOk_of {C : Cx} {P : Program} {bt bf : Nat} (ht : Nat.ble C.types.bound bt = true) (ht' : (List.range bt).map C.types.get = (List.range bt).map P.info?)
    (hf : Nat.ble C.funcs.bound bf = true) (hf' : (List.range bf).map C.funcs.get = (List.range bf).map (P.funcs[·]?)) (hrt : C.rt = P.rt) (hg : C.globals = P.globals.size) (hm : P.follows .mixedOrders = true)
    (hz : T.allB zeroB C.types = true) (hn : T.allB nameB C.funcs = true) {L : List Nat} (hfl : C.flat = L.foldl (fun t n => t.set n ()) .nil)
    (hfl' : L.all (fun t => !P.stoodInHeld t && !P.eqGuardType P.depth t) = true) : CxOk C P where
  info t i h := table_of ht ht' t i h
  func f fn h := table_of (A := (P.funcs[·]?)) hf hf' f fn h
  rt := hrt
  globals := hg
  mixed := hm
  zsize t i z h hz' := by
    have := T.allB_get _ t i hz h
    unfold zeroB at this
    rw [hz'] at this
    exact Nat.eq_of_beq_eq_true this
  flat t h := by
    rw [hfl] at h
    have key : ∀ (L : List Nat) (t0 : T Unit), ((L.foldl (fun t n => t.set n ()) t0).get t).isSome = true → t ∈ L ∨ (t0.get t).isSome = true := by
      intro L
      induction L with
      | nil => intro t0 h; exact .inr h
      | cons n r ih =>
        intro t0 h
        rcases ih _ h with h | h
        · exact .inl (List.mem_cons_of_mem _ h)
        · rw [T.get_set] at h
          split at h
          · rename_i e; rw [e]; exact .inl (List.mem_cons_self ..)
          · exact .inr h
    rcases key L .nil h with h | h
    · have := List.all_eq_true.1 hfl' t h
      simp only [Bool.and_eq_true, Bool.not_eq_true'] at this
      exact this
    · rw [T.get_nil] at h; cases h
  name f fn h hb := by
    have := T.allB_get _ f fn hn h
    unfold nameB at this
    rw [hb] at this
    simpa using this

end Go.Eng
