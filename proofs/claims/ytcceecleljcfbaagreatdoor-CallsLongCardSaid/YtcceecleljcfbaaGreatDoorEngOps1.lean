/- The abstract interpreter: its operations that ask no memory. -/
import Derived.Test.YtcceecleljcfbaaGreatDoorEngMem
import Derived.Laws.Tables
import Derived.Laws.Cells
namespace Go.Eng
set_option linter.unusedVariables false
set_option linter.unusedSimpArgs false

structure CxOk (C : Cx) (P : Program) : Prop where
  info : ∀ t i, C.types.get t = some i → P.info? t = some i
  func : ∀ f fn, C.funcs.get f = some fn → P.funcs[f]? = some fn
  rt : C.rt = P.rt
  globals : C.globals = P.globals.size
  mixed : P.follows .mixedOrders = true
  zsize : ∀ t i z, C.types.get t = some i → i.zero = some z → z.cells.size = i.size
  name : ∀ f fn, C.funcs.get f = some fn → fn.body.isSome = true → (fn.name == "runtime.NumGoroutine") = false
  flat : ∀ t, (C.flat.get t).isSome = true → P.stoodInHeld t = false ∧ P.eqGuardType P.depth t = false

section
variable {C : Cx} {P : Program}

theorem und_of (hC : CxOk C P) {t : TypeId} {d : TypeDesc} (h : C.und t = some d) : P.underlying t = some d := by
  rw [Cx.und_eq] at h; unfold und0 at h
  unfold Program.underlying
  split at h
  · rename_i i hi
    have h1 := hC.info t i hi
    split at h
    · rename_i nm u hd
      simp only [Option.map_eq_some_iff] at h
      obtain ⟨j, hj, rfl⟩ := h
      have h2 := hC.info u j hj
      obtain ⟨desc, str, size, bytes, hp, al, fa, zero, cmp, ms⟩ := i
      simp only at hd
      subst hd
      rw [h1]
      simp [h2]
    · rename_i hno
      cases h
      rw [h1]
      obtain ⟨desc, str, size, bytes, hp, al, fa, zero, cmp, ms⟩ := i
      cases desc <;> first | rfl | (exfalso; exact hno _ _ rfl)
  · cases h

theorem run_und (hC : CxOk C P) {t : TypeId} {d : TypeDesc} (h : C.und t = some d) (w : World) : (underlying t).run P w = .ok d w := run_underlying (und_of hC h) w

theorem run_info (hC : CxOk C P) {t : TypeId} {i : TypeInfo} (h : C.types.get t = some i) (w : World) : (typeInfo t).run P w = .ok i w := by
  simp [typeInfo, hC.info t i h]

theorem run_size (hC : CxOk C P) {t : TypeId} {n : Nat} (h : C.size t = some n) (w : World) : (sizeOf t).run P w = .ok n w := by
  rw [Cx.size_eq] at h; unfold size0 at h
  simp only [Option.map_eq_some_iff] at h
  obtain ⟨i, hi, rfl⟩ := h
  simp [sizeOf, run_info hC hi]

theorem zero_of (hC : CxOk C P) {t : TypeId} {z : Value} (h : C.zero t = some z) : (∀ w, (zeroValue t).run P w = .ok z w) ∧ closedB z = true := by
  rw [Cx.zero_eq] at h; unfold zero0 at h
  split at h
  · rename_i i hi
    split at h
    · rename_i z' hz
      cases hc : closedB z' with
      | false => simp [hc] at h
      | true =>
        simp only [hc, cond_true, Option.some.injEq] at h
        subst h
        refine ⟨fun w => ?_, hc⟩
        simp [zeroValue, run_info hC hi, hz]
    · cases h
  · cases h

theorem run_isAgg (hC : CxOk C P) {t : TypeId} {d : TypeDesc} (h : C.und t = some d) (w : World) : (isAgg t).run P w = .ok (isAggD d) w := by
  unfold isAgg
  rw [Sem.run_bind, run_und hC h]
  cases d <;> rfl

/-! ### lists of cells -/
theorem cells_den (φ : Phi) (v : Value) : (den φ v).cells = v.cells.map (den φ) := by
  cases v with
  | agg cs => simp [den, Value.cells, denA_map]
  | pointer a => cases a <;> simp [den, Value.cells]
  | slice a l c => cases a <;> simp [den, Value.cells]
  | map r => cases r <;> simp [den, Value.cells]
  | chan r => cases r <;> simp [den, Value.cells]
  | _ => simp [den, Value.cells]

theorem cellsOf_eq (v : Value) : cellsOf' v = v.cells.toList := by cases v <;> rfl
theorem cellsOf_den (φ : Phi) (v : Value) : cellsOf' (den φ v) = (cellsOf' v).map (den φ) := by
  rw [cellsOf_eq, cellsOf_eq, cells_den, Array.toList_map]
theorem cellsOf_ok {D : Nat → Prop} {v : Value} (h : Ok D v) : OkL D (cellsOf' v) := by
  cases v with
  | agg cs => simp only [Ok, OkA_iff] at h; simp only [cellsOf', OkL_iff]; exact h
  | _ => simp only [cellsOf', OkL]; exact ⟨h, trivial⟩

theorem nth_eq {α : Type} : ∀ (l : List α) (n : Nat), nth l n = l[n]?
  | [], n => by cases n <;> rfl
  | a :: r, 0 => rfl
  | a :: r, n + 1 => by simp only [nth, nth_eq r n]; simp

theorem dropN_eq {α : Type} : ∀ (n : Nat) (l : List α), dropN n l = l.drop n
  | 0, l => rfl
  | n + 1, [] => rfl
  | n + 1, a :: r => by simp only [dropN, dropN_eq n r]; rfl

theorem takeN_some {α : Type} : ∀ (n : Nat) (l r : List α), takeN n l = some r ↔ n ≤ l.length ∧ r = l.take n
  | 0, l, r => by simp [takeN, eq_comm]
  | n + 1, [], r => by simp [takeN]
  | n + 1, a :: l, r => by
    simp only [takeN]
    cases h : takeN n l with
    | none =>
      simp only [List.length_cons, List.take_succ_cons]
      constructor
      · intro h'; cases h'
      · rintro ⟨h1, _⟩
        have := (takeN_some n l (l.take n)).2 ⟨by omega, rfl⟩
        rw [this] at h; cases h
    | some x =>
      have h1 := (takeN_some n l x).1 h
      simp only [Option.some.injEq, List.length_cons, List.take_succ_cons]
      constructor
      · rintro rfl; exact ⟨by omega, by rw [h1.2]⟩
      · rintro ⟨_, rfl⟩; rw [h1.2]

theorem writeN_some {α : Type} : ∀ (l : List α) (n : Nat) (vs r : List α), writeN l n vs = some r ↔ n + vs.length ≤ l.length ∧ r = l.take n ++ vs ++ l.drop (n + vs.length)
  | l, 0, [], r => by simp [writeN]; exact ⟨fun h => h.symm, fun h => h.symm⟩
  | [], 0, v :: vs, r => by simp [writeN]
  | a :: l, 0, v :: vs, r => by
    simp only [writeN]
    cases h : writeN l 0 vs with
    | none =>
      simp only [List.length_cons]
      constructor
      · intro h'; cases h'
      · rintro ⟨h1, _⟩
        have := (writeN_some l 0 vs _).2 ⟨by omega, rfl⟩
        rw [this] at h; cases h
    | some x =>
      have h1 := (writeN_some l 0 vs x).1 h
      simp only [Option.some.injEq, List.length_cons]
      constructor
      · rintro rfl; refine ⟨by omega, ?_⟩; rw [h1.2]; simp
      · rintro ⟨_, rfl⟩; rw [h1.2]; simp
  | [], n + 1, vs, r => by simp [writeN]
  | a :: l, n + 1, vs, r => by
    simp only [writeN]
    cases h : writeN l n vs with
    | none =>
      simp only [List.length_cons]
      constructor
      · intro h'; cases h'
      · rintro ⟨h1, _⟩
        have := (writeN_some l n vs _).2 ⟨by omega, rfl⟩
        rw [this] at h; cases h
    | some x =>
      have h1 := (writeN_some l n vs x).1 h
      simp only [Option.some.injEq, List.length_cons]
      constructor
      · rintro rfl; refine ⟨by omega, ?_⟩; rw [h1.2, show n + 1 + vs.length = (n + vs.length) + 1 from by omega]; simp
      · rintro ⟨_, rfl⟩; rw [h1.2, show n + 1 + vs.length = (n + vs.length) + 1 from by omega]; simp

/-- Cells written into an array from place o on. -/
def wr (c : Array Value) (o : Nat) : List Value → Array Value
  | [] => c
  | v :: r => wr (c.setIfInBounds o v) (o + 1) r

theorem wr_size : ∀ (vs : List Value) (c : Array Value) (o : Nat), (wr c o vs).size = c.size
  | [], c, o => rfl
  | v :: r, c, o => by simp only [wr, wr_size r]; simp

theorem wr_get : ∀ (vs : List Value) (c : Array Value) (o j : Nat), o + vs.length ≤ c.size →
    (wr c o vs)[j]? = if o ≤ j ∧ j < o + vs.length then vs[j - o]? else c[j]?
  | [], c, o, j, _ => by simp only [wr, List.length_nil]; rw [if_neg (by omega)]
  | v :: r, c, o, j, h => by
    simp only [List.length_cons] at h ⊢
    rw [wr, wr_get r _ _ _ (by simp; omega)]
    by_cases h1 : o + 1 ≤ j ∧ j < o + 1 + r.length
    · rw [if_pos h1, if_pos (by omega), show j - o = (j - (o + 1)) + 1 from by omega]; rfl
    · rw [if_neg h1]
      by_cases h2 : j = o
      · subst h2
        rw [if_pos (by omega), Array.getElem?_setIfInBounds_self_of_lt (by omega)]
        simp
      · rw [if_neg (by omega), Array.getElem?_setIfInBounds_ne (by omega)]

theorem wr_list : ∀ (vs l : List Value) (o : Nat), o + vs.length ≤ l.length → wr ⟨l⟩ o vs = ⟨l.take o ++ vs ++ l.drop (o + vs.length)⟩ := by
  intro vs l o h
  apply Array.ext_getElem?
  intro j
  rw [wr_get _ _ _ _ (by simpa using h)]
  simp only [List.getElem?_toArray]
  by_cases h1 : o ≤ j ∧ j < o + vs.length
  · rw [if_pos h1, List.append_assoc, List.getElem?_append_right (by simp; omega), List.getElem?_append_left (by simp; omega)]
    congr 1; simp; omega
  · rw [if_neg h1]
    by_cases h2 : j < o
    · rw [List.append_assoc, List.getElem?_append_left (by simp; omega), List.getElem?_take_of_lt h2]
    · rw [List.getElem?_append_right (by simp; omega), List.getElem?_drop]
      congr 1; simp; omega

theorem fold_wr (vs : Array Value) (off : Nat) (cs : Array Value) :
    vs.zipIdx.foldl (fun cs (c, j) => cs.setIfInBounds (off + j) c) cs = wr cs off vs.toList := by
  cases vs with
  | mk l =>
    have : ∀ (l : List Value) (k : Nat) (cs : Array Value), (l.zipIdx k).foldl (fun cs (p : Value × Nat) => cs.setIfInBounds (off + p.2) p.1) cs = wr cs (off + k) l := by
      intro l
      induction l with
      | nil => intro k cs; rfl
      | cons v r ih => intro k cs; simp only [List.zipIdx_cons, List.foldl_cons, wr]; rw [ih]; rfl
    simpa using this l 0 cs

theorem fill_den (φ : Phi) {place place' : Nat → Option (Nat × Nat)} (hpl : ∀ i p, place i = some p → place' i = some p) :
    ∀ (parts : List (Nat × Value)) (cells r : List Value), fillL place parts cells = some r →
      Instr.fill place' (denL φ cells).toArray (parts.map fun p => (p.1, den φ p.2)) = some (denL φ r).toArray := by
  intro parts
  induction parts with
  | nil => intro cells r h; simp only [fillL, Option.some.injEq] at h; subst h; rfl
  | cons p rest ih =>
    intro cells r h
    obtain ⟨i, v⟩ := p
    simp only [fillL] at h
    split at h
    · cases h
    · rename_i off size hp
      cases hs : Nat.beq (cellsOf' v).length size with
      | false => rw [hs] at h; cases h
      | true =>
        rw [hs] at h
        simp only [cond_true] at h
        have hsz := Nat.eq_of_beq_eq_true hs
        split at h
        · rename_i cells' hw
          obtain ⟨h1, h2⟩ := (writeN_some _ _ _ _).1 hw
          have hcs : (den φ v).cells.size = size := by rw [cells_den, Array.size_map, ← hsz, cellsOf_eq]; simp
          have hle : off + (den φ v).cells.size ≤ (denL φ cells).toArray.size := by
            rw [hcs, denL_map]; simp; omega
          simp only [List.map_cons, Instr.fill, hpl i _ hp]
          have hcond : (((den φ v).cells.size != size) || decide (off + (den φ v).cells.size > (denL φ cells).toArray.size)) = false := by
            simp [hcs]; simp [hcs] at hle; omega
          rw [if_neg (by simp [hcs]; simp [hcs] at hle; omega)]
          rw [fold_wr, show (den φ v).cells.toList = denL φ (cellsOf' v) from by rw [cells_den, denL_map, cellsOf_eq]; simp]
          rw [show (denL φ cells).toArray = (⟨denL φ cells⟩ : Array Value) from rfl, wr_list _ _ _ (by simp [denL_map]; omega)]
          have : denL φ cells' = (denL φ cells).take off ++ denL φ (cellsOf' v) ++ (denL φ cells).drop (off + (denL φ (cellsOf' v)).length) := by
            rw [h2]; simp [denL_map, List.map_take, List.map_drop]
          rw [← this]
          exact ih _ _ h
        · cases h

theorem fillL_ok {D : Nat → Prop} {place : Nat → Option (Nat × Nat)} : ∀ (parts : List (Nat × Value)) (cells r : List Value), fillL place parts cells = some r →
    (∀ p ∈ parts, Ok D p.2) → OkL D cells → OkL D r := by
  intro parts
  induction parts with
  | nil => intro cells r h _ ho; simp only [fillL, Option.some.injEq] at h; subst h; exact ho
  | cons p rest ih =>
    intro cells r h hp ho
    obtain ⟨i, v⟩ := p
    simp only [fillL] at h
    split at h
    · cases h
    · rename_i off size _
      cases hs : Nat.beq (cellsOf' v).length size with
      | false => simp [hs] at h
      | true =>
        simp only [hs, cond_true] at h
        split at h
        · rename_i cells' hw
          obtain ⟨h1, h2⟩ := (writeN_some _ _ _ _).1 hw
          refine ih _ _ h (fun p hp' => hp p (List.mem_cons_of_mem _ hp')) ?_
          have hv := (OkL_iff D _).1 (cellsOf_ok (hp (i, v) (List.mem_cons_self ..)))
          have hc := (OkL_iff D _).1 ho
          rw [h2, OkL_iff]
          intro x hx
          simp only [List.mem_append] at hx
          rcases hx with (hx | hx) | hx
          · exact hc x (List.mem_of_mem_take hx)
          · exact hv x hx
          · exact hc x (List.mem_of_mem_drop hx)
        · cases h

theorem part_sound (hC : CxOk C P) {φ : Phi} {D : Nat → Prop} {t : TypeId} {cs : List Value} {off : Nat} {v : Value} (h : partA C t cs off = some v) (ho : OkL D cs) (w : World) :
    (part t (denL φ cs).toArray off).run P w = .ok (den φ v) w ∧ Ok D v := by
  unfold partA at h
  split at h
  · rename_i d hd
    cases ha : isAggD d with
    | true =>
      rw [ha] at h
      simp only [cond_true] at h
      split at h
      · rename_i n hn
        split at h
        · rename_i l hl
          cases h
          rw [dropN_eq] at hl
          obtain ⟨h1, rfl⟩ := (takeN_some _ _ _).1 hl
          refine ⟨?_, ?_⟩
          · simp only [part, Sem.run_bind, run_isAgg hC hd, ha, Result.andThen_ok, if_true, run_size hC hn, Sem.run_pure, den]
            congr 2
            simp [denA, denL_map, List.extract_eq_take_drop]
          · simp only [Ok, OkA]
            rw [OkL_iff] at ho ⊢
            exact fun x hx => ho x (List.mem_of_mem_drop (List.mem_of_mem_take hx))
        · cases h
      · cases h
    | false =>
      rw [ha] at h
      simp only [cond_false] at h
      rw [nth_eq] at h
      refine ⟨?_, (OkL_iff D cs).1 ho v (List.mem_of_getElem? h)⟩
      simp only [part, Sem.run_bind, run_isAgg hC hd, ha, Result.andThen_ok, Bool.false_eq_true, if_false]
      simp [denL_map, h]
  · cases h

end
end Go.Eng
