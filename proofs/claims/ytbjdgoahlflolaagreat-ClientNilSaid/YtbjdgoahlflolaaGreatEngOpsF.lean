/- The abstract interpreter: iterators, functions without a body, calls. -/
import Derived.Test.YtbjdgoahlflolaaGreatEngOpsE
import Derived.Lib.Bytealg
import Derived.KernelRfl
namespace Go.Eng
set_option linter.unusedVariables false
set_option linter.unusedSimpArgs false

section
variable {C : Cx} {P : Program} {φ : Phi} {D : Nat → Prop} {s : St} {w : World} {e : E} {a : Act}

theorem utf8_ascii (l : List UInt8) (pos : Nat) (c : UInt8) (h : l[pos]? = some c) (hc : c.toNat < 128) : Utf8.decode ⟨⟨l⟩⟩ pos = (c.toNat, 1) := by
  have hlt := (List.getElem?_eq_some_iff.1 h).1
  have h0 : ((ByteArray.mk ⟨l⟩).get! (pos + 0)).toNat = c.toNat := by
    have : (ByteArray.mk ⟨l⟩).get! (pos + 0) = c := by
      simp only [ByteArray.get!, Nat.add_zero]
      rw [getElem!_pos _ _ (by simpa using hlt)]
      have := (List.getElem?_eq_some_iff.1 h).2
      simpa using this
    rw [this]
  unfold Utf8.decode
  simp only [h0]
  rw [if_pos hc]

theorem den_tup1 (φ : Phi) (b : Bool) : den φ (.tuple #[.bool b]) = .tuple #[.bool b] := by simp [den, denA, denL]
theorem ok_tup1 (D : Nat → Prop) (b : Bool) : Ok D (.tuple #[.bool b]) := by simp [Ok, OkA, OkL]
theorem den_tup3 (φ : Phi) (x y z : Value) : den φ (.tuple #[x, y, z]) = .tuple #[den φ x, den φ y, den φ z] := by simp [den, denA, denL]
theorem ok_tup3 {D : Nat → Prop} {x y z : Value} (h1 : Ok D x) (h2 : Ok D y) (h3 : Ok D z) : Ok D (.tuple #[x, y, z]) := by
  simp only [Ok, OkA, OkL]; exact ⟨h1, h2, h3, trivial⟩

theorem op_next (hC : CxOk C P) (hr : Rel C φ D s.heap w) {it : Value} {isS : Bool} {t : TypeId} :
    OpOk C φ D s w (nextA it isS s) ((do pure (.value (← Instr.next (den φ it) isS t)) : Sem Next).run P w) := by
  generalize hg : nextA it isS s = res
  unfold nextA at hg
  split at hg
  case h_2 => subst hg; trivial
  rename_i r
  split at hg
  · rename_i l pos hb
    obtain ⟨h0, h1⟩ : (φ r).off = 0 ∧ w.heap[(φ r).block]? = some (.stringIter ⟨⟨l⟩⟩ pos) := hr.blk r _ hb
    have hit : den φ (.pointer (some ⟨r, 0, none⟩)) = .pointer (some ⟨(φ r).block, 0, none⟩) := by simp [den, h0]
    rw [hit]
    replace hg := bool_split hg; rcases hg with ⟨hS, hg⟩ | ⟨_, hg⟩
    case inr => subst hg; trivial
    subst hS
    have hsz : (ByteArray.mk ⟨l⟩).size = l.length := rfl
    split at hg
    · replace hg := bool_split hg; rcases hg with ⟨hle, hg⟩ | ⟨_, hg⟩
      case inr => subst hg; trivial
      rw [ble_iff] at hle
      subst hg
      refine .ok_value hr ?_ (ok_tup1 D false)
      simp only [Instr.next, Sem.run_bind, run_getObj h1 (by intro _ _ _ h; cases h), Result.andThen_ok, hsz]
      rw [if_neg (by omega)]
      simp [den_tup1]
    · rename_i c hc
      replace hg := bool_split hg; rcases hg with ⟨hlt, hg⟩ | ⟨_, hg⟩
      case inr => subst hg; trivial
      rw [blt_iff] at hlt
      rw [nth_eq] at hc
      subst hg
      have hset := hr.setObj (o := .stringIter ⟨⟨l⟩⟩ (pos + 1)) hb rfl rfl rfl (b' := .sIter l (pos + 1)) ⟨h0, setB_same (heap_lt h1)⟩
      refine ⟨φ, D, _, hset.1, hset.2, .inl ⟨rfl, rfl⟩, .value (.tuple #[.bool true, .int .i64 pos, .int .i32 c.toNat]), ?_, ok_tup3 (by simp [Ok]) (by simp [Ok]) (by simp [Ok]), by rw [den_tup3]; simp [den]⟩
      have hpl := (List.getElem?_eq_some_iff.1 hc).1
      simp only [Instr.next, Sem.run_bind, run_getObj h1 (by intro _ _ _ h; cases h), Result.andThen_ok, hsz]
      rw [if_pos hpl]
      simp only [utf8_ascii l pos c hc hlt, Sem.run_bind, run_setObj h1 (by intro _ _ _ h; cases h), Result.andThen_ok, Sem.run_pure, goInt]
  · rename_i since seen last hb
    obtain ⟨_, h0, h1⟩ := hr.blk r _ hb
    have hit : den φ (.pointer (some ⟨r, 0, none⟩)) = .pointer (some ⟨(φ r).block, 0, none⟩) := by simp [den, h0]
    rw [hit]
    replace hg := bool_split hg; rcases hg with ⟨hS, hg⟩ | ⟨hS, hg⟩
    · subst hg; trivial
    subst hS
    subst hg
    refine .ok_value hr ?_ (ok_tup1 D false)
    simp only [Instr.next, Sem.run_bind, run_getObj h1 (by intro _ _ _ h; cases h), Result.andThen_ok]
    simp [den_tup1]
  · subst hg; trivial

theorem cmpBytes_eq : ∀ (a b : List UInt8), cmpBytes a b = Lib.compareBytes a b
  | [], [] => rfl
  | [], _ :: _ => rfl
  | _ :: _, [] => rfl
  | a :: x, b :: y => by
    simp only [cmpBytes, Lib.compareBytes, cmpBytes_eq x y]
    have h2 : ∀ a b : UInt8, Nat.blt a.toNat b.toNat = decide (a < b) := fun a b => by
      rw [Bool.eq_iff_iff]
      simp only [Nat.blt_eq, decide_eq_true_eq]
      exact UInt8.lt_iff_toNat_lt.symm
    rw [h2, h2]
    by_cases h : a < b
    · simp [h]
    · by_cases h' : b < a
      · simp [h, h']
      · simp [h, h']

theorem run_loadBytes : ∀ (ns : List Int) (b o : Nat) (acc : ByteArray), (∀ j n, ns[j]? = some n → w.cell? ⟨b, o + j, none⟩ = some (.int .u8 n)) →
    (Extern.Bytes.loadBytes ⟨b, o, none⟩ ns.length acc).run P w = .ok ⟨⟨acc.data.toList ++ ns.map fun n => UInt8.ofNat n.toNat⟩⟩ w
  | [], b, o, acc, _ => by simp [Extern.Bytes.loadBytes]
  | n :: r, b, o, acc, h => by
    have h0 := h 0 n rfl
    simp only [List.length_cons, Extern.Bytes.loadBytes, Sem.run_bind, run_load]
    simp only [Nat.add_zero] at h0
    simp only [h0, Result.andThen_ok, addr_add]
    rw [run_loadBytes r b (o + 1) _ (fun j m hj => by rw [show o + 1 + j = o + (j + 1) from by omega]; exact h (j + 1) m (by simpa using hj))]
    simp [ByteArray.push]

theorem bytesOf_sound (hr : Rel C φ D s.heap w) {x : Value} {n : Nat} {l : List Value} {bs : List UInt8} (hs : isSlV x = true) (hrd : rdSlice s 1 x = some (n, l)) (hb : bytesOfCells l = some bs) :
    (Extern.Bytes.bytesOf (den φ x)).run P w = .ok ⟨⟨bs⟩⟩ w := by
  obtain ⟨ns, rfl, rfl⟩ := bytesOf_cells hb
  cases x with
  | slice ad len cap =>
    cases ad with
    | none =>
      unfold rdSlice at hrd
      replace hrd := bool_split hrd; rcases hrd with ⟨_, hrd⟩ | ⟨_, hrd⟩
      · simp only [Option.some.injEq, Prod.mk.injEq] at hrd
        have : ns = [] := by
          have := hrd.2
          cases ns with
          | nil => rfl
          | cons a b => simp at this
        subst this
        simp [den, Extern.Bytes.bytesOf]
        rfl
      · cases hrd
    | some ad =>
      obtain ⟨b, o, sp⟩ := ad
      have hsp : sp = none := by
        unfold rdSlice at hrd
        split at hrd <;> simp_all
      subst hsp
      unfold rdSlice at hrd
      simp only at hrd
      split at hrd
      case h_2 => cases hrd
      rename_i vs elem st par hbk
      split at hrd
      case h_2 => cases hrd
      rename_i l' hl
      simp only [Option.some.injEq, Prod.mk.injEq] at hrd
      obtain ⟨rfl, rfl⟩ := hrd
      obtain ⟨ho, c, fr, sz, h1, h2, h3, h4, h5⟩ := hr.blk b _ hbk
      rw [dropN_eq, Nat.mul_one] at hl
      obtain ⟨hlen, hl'⟩ := (takeN_some _ _ _).1 hl
      have hnl : ns.length = len := by
        have := congrArg List.length hl'
        simp at this hlen
        omega
      rw [den_slice]
      simp only [Extern.Bytes.bytesOf]
      have := run_loadBytes (P := P) (w := w) ns (φ b).block ((φ b).off + o) ByteArray.empty (fun j n hj => by
        rw [cell_of h1]
        have hj' : (ns.map (Value.int .u8))[j]? = some (.int .u8 n) := by simp [hj]
        have hjl := (List.getElem?_eq_some_iff.1 hj).1
        rw [hl', List.getElem?_take_of_lt (by omega), List.getElem?_drop] at hj'
        have := h4 _ _ hj'
        rw [Nat.add_assoc, this]
        simp [den])
      rw [hnl] at this
      rw [this]
      simp
  | _ => simp [isSlV] at hs

theorem compare_next : Extern.allNextRows.lookup "internal/bytealg.Compare" = none ∧ Extern.allNextRows.lookup "" = none := ⟨by kernel_rfl, by kernel_rfl⟩
theorem compare_generic : Extern.allGenericRows.lookup "internal/bytealg.Compare" = none := by kernel_rfl
theorem compare_typed : Extern.allTypedRows.lookup "internal/bytealg.Compare" = none := by kernel_rfl
theorem compare_rows : Extern.allRows.lookup "internal/bytealg.Compare" = some Extern.BytealgCompare.compare := by kernel_rfl

theorem compare_find : (∀ fn : Func, fn.name = "internal/bytealg.Compare" → fn.origin = "" → Extern.findNext fn = none) ∧
    (∀ fn : Func, fn.name = "internal/bytealg.Compare" → fn.origin = "" → Extern.find fn = some Extern.BytealgCompare.compare) := by
  constructor
  · intro fn h1 h2
    unfold Extern.findNext
    simp only [h1, h2, compare_next.1, compare_next.2]
    rfl
  · intro fn h1 h2
    unfold Extern.find
    simp only [h1, h2, compare_generic, compare_typed, compare_rows]
    rfl


theorem extern_sound (hr : Rel C φ D s.heap w) {fn : Func} {args : List Value} {nx : ANext} {s' : St} (h : externA s fn.name fn.origin args = .ok nx s') :
    ∃ v e, s' = s ∧ nx = .value v ∧ Extern.findNext fn = none ∧ Extern.find fn = some e ∧ (e (denL φ args).toArray).run P w = .ok (den φ v) w ∧ Ok D v := by
  unfold externA at h
  split at h
  case h_2 => cases h
  rename_i x y
  replace h := bool_split h; rcases h with ⟨hc, h⟩ | ⟨_, h⟩
  case inr => cases h
  simp only [Bool.and_eq_true, beq_iff_eq] at hc
  obtain ⟨⟨hn, ho⟩, hx, hy⟩ := hc
  split at h
  case h_2 => cases h
  rename_i n1 l1 n2 l2 hr1 hr2
  split at h
  case h_2 => cases h
  rename_i b1 b2 hb1 hb2
  cases h
  refine ⟨_, Extern.BytealgCompare.compare, rfl, rfl, compare_find.1 fn hn ho, compare_find.2 fn hn ho, ?_, by simp [Ok]⟩
  change Sem.run P (do pure (goInt (Extern.BytealgCompare.cmp (← Extern.Bytes.bytesOf (den φ x)) (← Extern.Bytes.bytesOf (den φ y))))) w = _
  simp only [Sem.run_bind, bytesOf_sound hr hx hr1 hb1, bytesOf_sound hr hy hr2 hb2, Result.andThen_ok, Sem.run_pure, Lib.cmp_eq, ← cmpBytes_eq, goInt, den]

theorem extern_ok {fn : Func} {args : List Value} : (∃ nx, externA s fn.name fn.origin args = .ok nx s) ∨ externA s fn.name fn.origin args = .fail := by
  unfold externA
  split
  · cases h : ((fn.name == "internal/bytealg.Compare" && fn.origin == "") && (isSlV _ && isSlV _)) with
    | true =>
      simp only [cond_true]
      split
      · split
        · exact .inl ⟨_, rfl⟩
        · exact .inr rfl
      · exact .inr rfl
    | false => exact .inr rfl
  · exact .inr rfl

theorem callFunc_sound (hC : CxOk C P) (hr : Rel C φ D s.heap w) {f : FuncId} {args : List Value} (hok : OkL D args) :
    OpOk C φ D s w (callFuncA C f args s) ((callFunc f (denL φ args).toArray).run P w) := by
  unfold callFuncA
  split
  case h_2 => trivial
  rename_i fn hfn
  have hf := hC.func f fn hfn
  split
  · rename_i c hb
    refine After.same hr ⟨.enter f (denL φ args).toArray, ?_, rfl, hok, rfl⟩
    have hname := hC.name f fn hfn (by simp [hb])
    simp only [callFunc, Sem.run_bind, run_program, Result.andThen_ok, hf, hname, Bool.false_eq_true, if_false, hb, Option.isNone_some, Sem.run_pure]
  · rename_i hb
    rcases extern_ok (s := s) (fn := fn) (args := args) with ⟨nx, hx⟩ | hx
    · rw [hx]
      obtain ⟨v, e, _, rfl, h1, h2, h3, h4⟩ := extern_sound (P := P) hr hx
      refine .ok_value hr ?_ h4
      have hname : (fn.name == "runtime.NumGoroutine") = false := by
        cases hq : fn.name == "runtime.NumGoroutine" with
        | false => rfl
        | true =>
          rw [beq_iff_eq] at hq
          unfold externA at hx
          rw [hq] at hx
          split at hx
          · simp at hx
          · cases hx
      simp only [callFunc, Sem.run_bind, run_program, Result.andThen_ok, hf, hname, Bool.false_eq_true, if_false, hb, Option.isNone_none, if_true, run_mark, h1, h2, h3, Sem.run_pure]
    · rw [hx]; trivial

end
end Go.Eng
