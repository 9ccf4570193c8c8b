/- The abstract interpreter: stores, fields, indexes, comparisons, conversions. -/
import Derived.Test.YtcceecleljcfbaaGreatDoorEngOps3
import Derived.Laws.Strings
namespace Go.Eng
set_option linter.unusedVariables false
set_option linter.unusedSimpArgs false

section
variable {C : Cx} {P : Program} {φ : Phi} {D : Nat → Prop} {s : St} {w : World} {e : E} {a : Act}

theorem denA_list (φ : Phi) (cs : Array Value) : denA φ cs = (denL φ cs.toList).toArray := by cases cs; rfl

theorem ok_undef (D : Nat → Prop) : Ok D undef := by simp [undef, Ok, OkA, OkL]
theorem den_undef (φ : Phi) : den φ undef = undef := by simp [undef, den, denA, denL]

theorem storeA_sound (hC : CxOk C P) (hr : Rel C φ D s.heap w) {t : TypeId} {p v : Value} {s' : St} (h : storeA C t p v s = some s') (hv : Ok D v) :
    s'.next = s.next ∧ ∃ w', (Instr.storeAt t (den φ p) (den φ v)).run P w = .ok () w' ∧ Rel C φ D s'.heap w' ∧ Ext φ D s.heap w φ D s'.heap w' := by
  unfold storeA at h
  split at h
  case h_2 => cases h
  rename_i id off
  split at h
  case h_2 => cases h
  rename_i n hn
  cases hb : Nat.beq (cellsOf' v).length n with
  | false => simp only [hb, cond_false] at h; cases h
  | true =>
    simp only [hb, cond_true] at h
    obtain ⟨h1, w', h2, h3, h4⟩ := writeBlk_sound hr h (cellsOf_ok hv) (fun _ => trivial)
    refine ⟨h1, w', ?_, h3, h4⟩
    have hsz : (den φ v).cells.size = n := by
      rw [cells_den, Array.size_map, ← Nat.eq_of_beq_eq_true hb, cellsOf_eq]; simp
    simp only [Instr.storeAt, Instr.sureAddr, den, Sem.run_bind, Sem.run_pure, Result.andThen_ok, storeVar, run_size hC hn, hsz, ne_eq, not_true, if_false]
    have := h2 P
    rw [denL_map, cellsOf_eq, ← Array.toList_map, ← cells_den] at this
    exact this

theorem op_store (hC : CxOk C P) (hr : Rel C φ D s.heap w) (he : ERel φ D e a) {t : TypeId} {x y : Operand} {p v : Value} (hx : e.eval C x = some p) (hy : e.eval C y = some v) :
    OpOk C φ D s w (ostate (storeA C t p v s)) ((do Instr.storeAt t (a.eval x) (a.eval y); pure .skip : Sem Next).run P w) := by
  have h1 := eval_sound hC hr he hx
  have h2 := eval_sound hC hr he hy
  cases hs : storeA C t p v s with
  | none => trivial
  | some s' =>
    obtain ⟨h3, w', h4, h5, h6⟩ := storeA_sound hC hr hs h2.2
    refine ⟨φ, D, w', h5, h6, .inl ⟨rfl, h3⟩, .skip, ?_, rfl⟩
    rw [h1.1, h2.1]
    simp [h4]

theorem nil_deref_run (hC : CxOk C P) {α : Type} : (runtimePanic .nilDeref : Sem α).run P w = .halt (.panic (den φ (nilDerefV C))) w := by
  simp only [runtimePanic, Sem.run_bind, run_program, Result.andThen_ok, run_goPanic, nilDerefV, errV, den, strVal, hC.rt]

theorem ok_nilDeref : Ok D (nilDerefV C) := by simp [nilDerefV, errV, Ok, strVal]

theorem OpOk.nilDeref (hC : CxOk C P) (hr : Rel C φ D s.heap w) {run : Result Next} (h : run = .halt (.panic (den φ (nilDerefV C))) w) : OpOk C φ D s w (.panic (nilDerefV C) s) run :=
  After.same hr ⟨h, ok_nilDeref⟩

theorem field_sound (hC : CxOk C P) {t : TypeId} {x v : Value} {f : Nat} (h : fieldA C t x f = some v) (hx : Ok D x) : (Instr.field t (den φ x) f).run P w = .ok (den φ v) w ∧ Ok D v := by
  unfold fieldA at h
  split at h
  case h_2 => cases h
  rename_i fields cs hu
  split at h
  case h_2 => cases h
  rename_i fd hfd
  rw [nth_eq] at hfd
  simp only [Ok, OkA_iff] at hx
  have := part_sound (φ := φ) (D := D) hC h (by rw [OkL_iff]; exact hx) w
  refine ⟨?_, this.2⟩
  have hcs : den φ (.agg cs) = .agg (denL φ cs.toList).toArray := by simp only [den, denA_list]
  have hfd' : fields[f]? = some fd := by simpa using hfd
  simp only [Instr.field, Sem.run_bind, run_und hC hu, Result.andThen_ok, hfd', hcs, asAgg, Sem.run_pure, this.1]

theorem fieldAddr_sound (hC : CxOk C P) {t : TypeId} {x v : Value} {f : Nat} (h : fieldAddrA C t x f = some v) (hx : Ok D x) : (Instr.fieldAt t (den φ x) f).run P w = .ok (den φ v) w ∧ Ok D v := by
  unfold fieldAddrA at h
  split at h
  case h_2 => cases h
  rename_i fields b o hu
  split at h
  case h_2 => cases h
  rename_i fd hfd
  rw [nth_eq] at hfd
  split at h
  case h_2 => cases h
  rename_i n hn
  cases h
  simp only [Ok] at hx
  have hfd' : fields[f]? = some fd := by simpa using hfd
  refine ⟨?_, ?_⟩
  · simp only [Instr.fieldAt, Sem.run_bind, run_und hC hu, Result.andThen_ok, hfd', den, Instr.sureAddr, Sem.run_pure, fieldPlace, run_size hC hn]
    rw [if_neg (by omega)]
    simp [addr_add, Nat.add_assoc]
  · simp only [Ok]; exact ⟨trivial, hx.2⟩

theorem ok_slice {b o l c : Nat} (h : Ok D (.slice (some ⟨b, o, none⟩) l c)) : D b := by simp only [Ok] at h; exact h.2

theorem indexAddr_sound (hC : CxOk C P) {t : TypeId} {x i v : Value} (h : indexAddrA C t x i = some v) (hx : Ok D x) : (Instr.indexAt t (den φ x) (den φ i)).run P w = .ok (den φ v) w ∧ Ok D v := by
  unfold indexAddrA at h
  split at h
  case h_2 => cases h
  rename_i k n
  split at h
  · rename_i len elem b o hu
    split at h
    case h_2 => cases h
    rename_i sz hsz
    cases hb : Nat.blt n len with
    | false => rw [hb] at h; cases h
    | true =>
      rw [hb] at h
      cases h
      have hlt : n < len := by simpa [Nat.blt_eq] using hb
      simp only [Ok] at hx
      refine ⟨?_, by simp only [Ok]; exact ⟨trivial, hx.2⟩⟩
      simp only [Instr.indexAt, den, asIntOf, Sem.run_bind, Sem.run_pure, Result.andThen_ok, run_und hC hu, Instr.sureAddr, run_size hC hsz]
      rw [if_pos (by simp; omega)]
      simp [run_size hC hsz, addr_add, Nat.add_assoc]
  · rename_i elem b o len cap hu
    split at h
    case h_2 => cases h
    rename_i sz hsz
    cases hb : Nat.blt n len with
    | false => rw [hb] at h; cases h
    | true =>
      rw [hb] at h
      cases h
      have hlt : n < len := by simpa [Nat.blt_eq] using hb
      have hD := ok_slice hx
      refine ⟨?_, by simp only [Ok]; exact ⟨trivial, hD⟩⟩
      simp only [Instr.indexAt, den, asIntOf, Sem.run_bind, Sem.run_pure, Result.andThen_ok, run_und hC hu]
      rw [if_pos (by simp; omega)]
      simp [run_size hC hsz, addr_add, Nat.add_assoc]
  · cases h

theorem index_sound (hC : CxOk C P) {t : TypeId} {x i v : Value} (h : indexA C t x i = some v) (hx : Ok D x) : (Instr.index t (den φ x) (den φ i)).run P w = .ok (den φ v) w ∧ Ok D v := by
  unfold indexA at h
  split at h
  case h_2 => cases h
  rename_i k n
  split at h
  · rename_i len elem cs hu
    split at h
    case h_2 => cases h
    rename_i sz hsz
    cases hb : Nat.blt n len with
    | false => rw [hb] at h; cases h
    | true =>
      rw [hb] at h
      simp only [cond_true] at h
      have hlt : n < len := by simpa [Nat.blt_eq] using hb
      simp only [Ok, OkA_iff] at hx
      have := part_sound (φ := φ) (D := D) hC h (by rw [OkL_iff]; exact hx) w
      refine ⟨?_, this.2⟩
      have hcs : den φ (.agg cs) = .agg (denL φ cs.toList).toArray := by simp only [den, denA_list]
      simp only [Instr.index, den, denA_list, asIntOf, Sem.run_bind, Sem.run_pure, Result.andThen_ok, run_und hC hu]
      rw [if_pos (by simp; omega)]
      simp only [Sem.run_bind, run_size hC hsz, Result.andThen_ok, Int.ofNat_eq_natCast, Int.toNat_natCast, this.1]
  · rename_i str hu
    split at h
    case h_2 => cases h
    rename_i b hb
    cases h
    rw [nth_eq] at hb
    have hb' : str[n]? = some b := by
      have : str.data[n]? = some b := by simpa using hb
      rw [← this]
      obtain ⟨hlt, _⟩ := Array.getElem?_eq_some_iff.1 this
      rw [Array.getElem?_eq_getElem hlt]
      exact getElem?_pos str n hlt
    refine ⟨?_, trivial⟩
    simp only [Instr.index, den, asIntOf, Sem.run_bind, Sem.run_pure, Result.andThen_ok, run_und hC hu]
    rw [if_pos (by simp)]
    simp only [Int.ofNat_eq_natCast, Int.toNat_natCast, hb', Sem.run_pure]
  · cases h

/-! ### numbers, strings, comparisons -/
theorem eqBytes_eq : ∀ (x y : List UInt8), eqBytes x y = (x == y)
  | [], [] => rfl
  | [], _ :: _ => rfl
  | _ :: _, [] => rfl
  | a :: x, b :: y => by
    simp only [eqBytes, eqBytes_eq x y]
    have : Nat.beq a.toNat b.toNat = (a == b) := by
      rw [Bool.eq_iff_iff]
      simp only [Nat.beq_eq, beq_iff_eq]
      exact ⟨UInt8.toNat_inj.1, fun h => by rw [h]⟩
    rw [this]; rfl

theorem ltBytes_eq : ∀ (x y : List UInt8), ltBytes x y = Op.bytesLess x y
  | [], [] => rfl
  | [], _ :: _ => rfl
  | _ :: _, [] => rfl
  | a :: x, b :: y => by
    simp only [ltBytes, Op.bytesLess, ltBytes_eq x y]
    have h1 : Nat.beq a.toNat b.toNat = (a == b) := by
      rw [Bool.eq_iff_iff]
      simp only [Nat.beq_eq, beq_iff_eq]
      exact ⟨UInt8.toNat_inj.1, fun h => by rw [h]⟩
    have h2 : Nat.blt a.toNat b.toNat = decide (a < b) := by
      rw [Bool.eq_iff_iff]
      simp only [Nat.blt_eq, decide_eq_true_eq]
      exact UInt8.lt_iff_toNat_lt.symm
    rw [h1, h2]

theorem den_inert {v : Value} (h : ∀ φ, den φ v = v) (hk : Ok D v) : den φ v = v ∧ Ok D v := ⟨h φ, hk⟩

theorem intBin_sound {op : BinOp} {k : IntKind} {x y : Int} {v : Value} (hop : op ≠ .shl ∧ op ≠ .shr) (h : intBin op k x y = some v) (t : TypeId) :
    (binOp op t (.int k x) (.int k y)).run P w = .ok (den φ v) w ∧ Ok D v := by
  cases op <;> simp only [intBin, intSel] at h <;> first
    | (exact absurd rfl hop.1)
    | (exact absurd rfl hop.2)
    | (cases h; done)
    | (cases h; refine ⟨?_, by simp [Ok]⟩; simp [binOp, Op.intArith, Op.intBits, Op.intCmp, den]; done)
    | (cases h; exact ⟨by simp [binOp, Op.intArith, Op.intBits, Op.intCmp, den]; rw [Bool.eq_iff_iff]; simp, by simp [Ok]⟩)
    | (by_cases hy : y = 0
       · simp [hy] at h
       · simp only [hy, decide_false, cond_false, Option.some.injEq] at h
         subst h
         simp [binOp, Op.intDiv, hy, den, Ok])

theorem shiftBin_sound {op : BinOp} {k k' : IntKind} {x y : Int} {v : Value} (hop : op = .shl ∨ op = .shr) (h : shiftBin op k x y = some v) (t : TypeId) :
    (binOp op t (.int k x) (.int k' y)).run P w = .ok (den φ v) w ∧ Ok D v := by
  unfold shiftBin at h
  by_cases hy : y < 0
  · simp [hy] at h
  · simp only [hy, decide_false, cond_false] at h
    rcases hop with rfl | rfl
    · cases h
      simp [binOp, Op.shift, hy, den, Ok]
    · cases h
      simp [binOp, Op.shift, hy, den, Ok]

theorem strBin_sound {op : BinOp} {x y : ByteArray} {v : Value} (h : strBin op x y = some v) (t : TypeId) :
    (binOp op t (.string x) (.string y)).run P w = .ok (den φ v) w ∧ Ok D v := by
  cases op <;> simp only [strBin] at h <;> first
    | (cases h; done)
    | (cases h; simp [binOp, Op.stringOp, den, Ok, eqBytes_eq, ltBytes_eq, ByteArray.toList_eq]; done)
    | (cases hb : Nat.blt (x.size + y.size) 1099511627776 with
       | false => rw [hb] at h; cases h
       | true =>
         rw [hb] at h
         cases h
         have hlt : x.size + y.size < 1099511627776 := by simpa [Nat.blt_eq] using hb
         have hd : (x ++ y : ByteArray) = ⟨⟨x.data.toList ++ y.data.toList⟩⟩ := by
           apply ByteArray.ext
           rw [ByteArray.data_append]
           apply Array.toList_inj.1
           simp
         have hno : ¬ (((x.size + y.size : Nat) : Int) > IntKind.i64.max) := by
           simp [IntKind.max, IntKind.signed, IntKind.bits]; omega
         simp only [binOp, Op.stringOp]
         rw [if_neg hno]
         simp [den, Ok, hd])

end
end Go.Eng
