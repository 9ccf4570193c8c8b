/- The abstract interpreter: append and copy. -/
import Derived.Test.YtcceecleljcfbaaGreatDoorEngOps6
import Derived.IntWalk
namespace Go.Eng
set_option linter.unusedVariables false
set_option linter.unusedSimpArgs false

section
variable {C : Cx} {P : Program} {φ : Phi} {D : Nat → Prop} {s : St} {w : World} {e : E} {a : Act}

theorem den_bytes (φ : Phi) (l : List UInt8) : denL φ (l.map fun b => Value.int .u8 b.toNat) = l.map fun b => Value.int .u8 b.toNat := by
  rw [denL_map, List.map_map]; rfl
theorem ok_bytes (D : Nat → Prop) (l : List UInt8) : OkL D (l.map fun b => Value.int .u8 b.toNat) := by
  rw [OkL_iff]; intro v hv
  obtain ⟨b, _, rfl⟩ := List.mem_map.1 hv
  simp [Ok]

theorem bytearray_size (b : ByteArray) : b.size = b.data.toList.length := by simp

/-- What is appended or copied, as the model reads it. -/
theorem rd_sound (hr : Rel C φ D s.heap w) {size : Nat} {x : Value} {n : Nat} {l : List Value} (h : rdSlice s size x = some (n, l)) :
    (Builtin.lenOf (den φ x)).run P w = .ok n w ∧ OkL D l ∧ l.length = n * size ∧
    (∀ k l', k ≤ n → takeN (k * size) l = some l' → (Builtin.firstCells size k (den φ x)).run P w = .ok (denL φ l').toArray w) := by
  unfold rdSlice at h
  split at h
  · replace h := bool_split h; rcases h with ⟨h0, h⟩ | ⟨_, h⟩
    case inr => cases h
    rw [beq_iff] at h0
    cases h
    subst h0
    refine ⟨by simp [den, Builtin.lenOf], trivial, by simp, ?_⟩
    intro k l' hk hl
    have : l' = [] := by
      have := ((takeN_some _ _ _).1 hl).2
      simpa using this
    subst this
    simp [den, Builtin.firstCells, denL]
  · rename_i b o len cap
    split at h
    case h_2 => cases h
    rename_i vs elem st par hb
    split at h
    case h_2 => cases h
    rename_i l0 hl0
    cases h
    obtain ⟨ho, c, fr, sz, h1, h2, h3, h4, h5, h6⟩ := hr.blk b _ hb
    have hl0' := hl0
    rw [dropN_eq] at hl0'
    obtain ⟨hlen, rfl⟩ := (takeN_some _ _ _).1 hl0'
    refine ⟨by rw [den_slice]; simp [Builtin.lenOf], ?_, by simp at hlen ⊢; omega, ?_⟩
    · rw [OkL_iff] at ho ⊢
      exact fun x hx => ho x (List.mem_of_mem_drop (List.mem_of_mem_take hx))
    · intro k l' hk hl
      obtain ⟨hkl, rfl⟩ := (takeN_some _ _ _).1 hl
      have hle : k * size ≤ n * size := Nat.mul_le_mul_right _ hk
      rw [den_slice]
      simp only [Builtin.firstCells]
      refine run_loadCells_blk h1 h4 ?_
      rw [dropN_eq, takeN_some]
      refine ⟨by simp at hlen ⊢; omega, ?_⟩
      rw [List.take_take, Nat.min_eq_left hle]
  · rename_i b o k len cap
    replace h := bool_split h; rcases h with ⟨h0, h⟩ | ⟨_, h⟩
    case inr => cases h
    rw [beq_iff] at h0
    cases h
    subst h0
    refine ⟨by simp [den, Builtin.lenOf], by simp only [OkL], by simp, ?_⟩
    intro k l' hk hl
    have hk0 : k = 0 := by omega
    subst hk0
    have : l' = [] := by
      have := ((takeN_some _ _ _).1 hl).2
      simpa using this
    subst this
    simp [den, Builtin.firstCells, denL, loadCells]
    rfl
  · replace h := bool_split h; rcases h with ⟨h0, h⟩ | ⟨_, h⟩
    case inr => cases h
    rw [beq_iff] at h0
    cases h
    subst h0
    refine ⟨by simp [den, Builtin.lenOf], ok_bytes D _, by rw [List.length_map, bytearray_size]; omega, ?_⟩
    intro k l' hk hl
    rw [Nat.mul_one] at hl
    obtain ⟨hkl, rfl⟩ := (takeN_some _ _ _).1 hl
    simp only [den, Builtin.firstCells, Sem.run_pure]
    congr 1
    rw [← List.map_take, den_bytes]
    apply Array.toList_inj.1
    simp [extract_eq]
  · cases h

theorem rd_all (hr : Rel C φ D s.heap w) {size : Nat} {x : Value} {n : Nat} {l : List Value} (h : rdSlice s size x = some (n, l)) :
    (Builtin.firstCells size n (den φ x)).run P w = .ok (denL φ l).toArray w := by
  obtain ⟨_, _, h3, h4⟩ := rd_sound (P := P) hr h
  exact h4 n l (Nat.le_refl _) ((takeN_some _ _ _).2 ⟨by omega, by rw [← h3]; simp⟩)

theorem growBy_le (newLen : Nat) : ∀ (r c : Nat), c ≤ newLen → Builtin.growBy newLen r c ≤ newLen + (newLen + 768) / 4
  | 0, c, h => by unfold Builtin.growBy; omega
  | r + 1, c, h => by
    unfold Builtin.growBy
    split
    · omega
    · rename_i hlt
      by_cases h2 : c + (c + 768) / 4 ≤ newLen
      · exact growBy_le newLen r _ h2
      · have : ∀ (r : Nat) (d : Nat), newLen ≤ d → Builtin.growBy newLen r d = d := by
          intro r
          cases r with
          | zero => intro d _; rfl
          | succ r => intro d hd; unfold Builtin.growBy; rw [if_pos hd]
        rw [this r _ (by omega)]
        omega

theorem nextslicecap_le {need old : Nat} (h : old < need) : Builtin.nextslicecap need old ≤ 2 * need + 768 := by
  unfold Builtin.nextslicecap
  split
  · omega
  · split
    · omega
    · have := growBy_le need 4 old (by omega)
      omega

theorem roomy_cap {need old bytes : Nat} (h : roomy need bytes = true) (ho : old < need) : ¬ (Builtin.nextslicecap need old * bytes > 2 ^ 48) := by
  unfold roomy at h
  simp only [Bool.and_eq_true, blt_iff] at h
  have h1 := nextslicecap_le ho
  have h2 : Builtin.nextslicecap need old * bytes ≤ (2 * need + 768) * bytes := Nat.mul_le_mul_right _ h1
  have h3 : (2 * need + 768) * bytes = 2 * (need * bytes) + 768 * bytes := by rw [Nat.add_mul, Nat.mul_assoc]
  omega

theorem roomy_need {need bytes : Nat} (h : roomy need bytes = true) : need < 1099511627776 ∧ bytes ≠ 0 := by
  unfold roomy at h
  simp only [Bool.and_eq_true, blt_iff] at h
  have : need ≤ need * bytes := Nat.le_mul_of_pos_right _ h.2.1
  omega

/-- What is appended: a list, a string, or so many zeros. -/
def AppArg (P : Program) (w : World) (xd : TypeDesc) (ei : TypeInfo) (elem : TypeId) (x : Value) (n : Nat) (new : Array Value) : Prop :=
  (isIntD xd = false ∧ (Builtin.lenOf x).run P w = .ok n w ∧ ∀ w' : World, w'.heap = w.heap → (Builtin.firstCells ei.size n x).run P w' = .ok new w') ∨
  (∃ k k' z, xd = .int k ∧ x = .int k' n ∧ n ≤ 1099511627776 ∧ ei.bytes * n ≤ 1099511627776 ∧ P.info? elem = some ei ∧ ei.zero = some z ∧ z.cells.size = ei.size ∧ new = Builtin.zeroCells z.cells n)

/-- The model's append, where it grows: the new row, its capacity as the tape says. -/
theorem append_grow_run (hC : CxOk C P) {st xt elem : TypeId} {xd : TypeDesc} {ei : TypeInfo} {type : TypeId} {argTypes : Array TypeId} {args : Array Value} {base : Option Addr} {sLen sCap n : Nat} {x : Value} {old new : Array Value}
    (ha : argTypes.toList = [st, xt]) (hv : args.toList = [.slice base sLen sCap, x]) (hs : C.und st = some (.slice elem)) (hx : C.und xt = some xd) (hei : C.types.get elem = some ei)
    (happ : AppArg P w xd ei elem x n new) (hneed : sCap < sLen + n) (hroom : roomy (sLen + n) ei.bytes = true)
    (hold : ∀ w' : World, w'.heap = w.heap → (Builtin.firstCells ei.size sLen (.slice base sLen sCap)).run P w' = .ok old w')
    {z : Value} (hz : P.info? elem = some ei ∧ ei.zero = some z) :
    ∃ cap, sLen + n ≤ cap ∧ (Builtin.append_ argTypes type args).run P w =
      .ok (.slice (some ⟨w.heap.size, 0, none⟩) (sLen + n) cap) { w with drawn := w.drawn + 1, heap := w.heap.push (.cells (old ++ new ++ Builtin.zeroCells z.cells (cap - (sLen + n))) elem) } := by
  obtain ⟨at0, at1⟩ : argTypes[0]? = some st ∧ argTypes[1]? = some xt := by
    rw [← Array.getElem?_toList, ← Array.getElem?_toList, ha]; exact ⟨rfl, rfl⟩
  obtain ⟨av0, av1⟩ : args[0]? = some (.slice base sLen sCap) ∧ args[1]? = some x := by
    rw [← Array.getElem?_toList, ← Array.getElem?_toList, hv]; exact ⟨rfl, rfl⟩
  obtain ⟨q, hq⟩ : ∃ q, q = (Question.appendCap (sLen + n) sCap elem).cut (w.tape w.drawn (.appendCap (sLen + n) sCap elem)) := ⟨_, rfl⟩
  refine ⟨q, by rw [hq]; simp [Question.cut], ?_⟩
  have hnd := roomy_need hroom
  have hcap := roomy_cap hroom hneed
  have hsz : (sizeOf elem).run P w = .ok ei.size w := run_size hC (by simp [Cx.size_eq, size0, hei]) w
  rcases happ with ⟨hi, hn, hnew⟩ | ⟨k, k', z', rfl, rfl, hn1, hn2, hinf, hz', hzs, rfl⟩
  · cases xd <;> simp only [isIntD, Bool.true_eq_false] at hi <;>
    · unfold Builtin.append_
      simp only [at0, at1, av0, av1, Sem.run_bind, run_und hC hs, Result.andThen_ok, hsz, run_und hC hx, Sem.run_pure, Bool.false_eq_true, if_false, hn]
      rw [if_neg (by omega)]
      simp only [Sem.run_bind, run_info hC hei, Result.andThen_ok]
      rw [if_neg (by simp; omega)]
      simp only [Sem.run_pure, Result.andThen_ok, Sem.run_bind, run_info hC hei]
      rw [if_neg hcap]
      simp only [Sem.run_pure, Result.andThen_ok, Sem.run_bind, run_choose, Question.forced, Bool.false_eq_true, if_false, ← hq, run_info hC hei, run_askRoom]
      rw [hold { w with drawn := w.drawn + 1 } rfl]
      simp only [Result.andThen_ok, Bool.not_false, if_true]
      rw [hnew { w with drawn := w.drawn + 1 } rfl]
      simp only [Result.andThen_ok, zeroValue, Sem.run_bind, run_info hC hei, hz.2, Sem.run_pure, newRow, run_newObj]
  · have hzz : z' = z := by rw [hz.2] at hz'; exact (Option.some.inj hz').symm
    subst hzz
    have hwr : IntKind.i64.wrap (n : Int) = n := IntWalk.i64_in _ (by omega)
    have hb : ((ei.bytes : Int) * (n : Int)) ≤ 1099511627776 := by
      have : ((ei.bytes * n : Nat) : Int) ≤ 1099511627776 := by omega
      simpa using this
    have hb' : ¬ ((n : Int) * (ei.bytes : Int) > 2 ^ 48) := by rw [Int.mul_comm]; omega
    have hneg : ¬ ((n : Int) < 0) := by omega
    have hmax : IntKind.i64.max = 9223372036854775807 := rfl
    have hi64 : ¬ (((sLen + n : Nat) : Int) > IntKind.i64.max) := by rw [hmax]; omega
    have happd : ∀ w' : World, ((if n * ei.size = 0 then pure #[] else do pure (Builtin.zeroCells (← zeroValue elem).cells n) : Sem (Array Value))).run P w' = .ok (Builtin.zeroCells z'.cells n) w' := by
      intro w'
      by_cases h0 : n * ei.size = 0
      · rw [if_pos h0]
        simp [Builtin.zeroCells, hzs, h0]
      · rw [if_neg h0]
        simp only [zeroValue, Sem.run_bind, run_info hC hei, Result.andThen_ok, hz.2, Sem.run_pure]
    unfold Builtin.append_
    simp only [at0, at1, av0, av1, Sem.run_bind, run_und hC hs, Result.andThen_ok, hsz, run_und hC hx, Sem.run_pure, if_true, asInt, asIntOf, hwr, if_neg hneg, run_info hC hei, if_neg hb', Int.toNat_natCast]
    rw [if_neg (by omega)]
    simp only [Sem.run_bind, run_info hC hei, Result.andThen_ok, if_neg (fun h => hi64 (And.left h)), Sem.run_pure, if_neg hcap, run_choose, Question.forced, Bool.false_eq_true, if_false, ← hq, run_askRoom]
    rw [hold { w with drawn := w.drawn + 1 } rfl]
    simp only [Result.andThen_ok, Bool.not_true, Bool.false_eq_true, if_false, Sem.run_bind]
    rw [happd]
    simp only [Result.andThen_ok, zeroValue, Sem.run_bind, run_info hC hei, hz.2, Sem.run_pure, newRow, run_newObj]

end
end Go.Eng
