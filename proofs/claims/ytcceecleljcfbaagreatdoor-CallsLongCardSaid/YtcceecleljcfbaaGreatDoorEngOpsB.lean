/- The abstract interpreter: lists that are built and made, maps, conversions. -/
import Derived.Test.YtcceecleljcfbaaGreatDoorEngOpsA
import Derived.IntWalk
namespace Go.Eng
set_option linter.unusedVariables false
set_option linter.unusedSimpArgs false

theorem cellsZero_len (l : List Value) : ∀ n, (cellsZero l n).length = n * l.length
  | 0 => by simp [cellsZero]
  | n + 1 => by simp only [cellsZero, List.length_append, cellsZero_len l n, Nat.add_mul]; omega

theorem cellsZero_get (l : List Value) (h0 : 0 < l.length) : ∀ n j, j < n * l.length → (cellsZero l n)[j]? = l[j % l.length]?
  | 0, j, h => by omega
  | n + 1, j, h => by
    simp only [cellsZero]
    by_cases hj : j < l.length
    · rw [List.getElem?_append_left hj, Nat.mod_eq_of_lt hj]
    · have h' : j < n * l.length + l.length := by rw [Nat.add_mul] at h; omega
      rw [List.getElem?_append_right (by omega), cellsZero_get l h0 n _ (by omega)]
      congr 1
      exact (Nat.mod_eq_sub_mod (by omega)).symm

theorem range_zero (z : Array Value) (n : Nat) : (Array.range (n * z.size)).map (fun i => z[i % z.size]!) = (cellsZero z.toList n).toArray := by
  apply Array.ext_getElem?
  intro j
  by_cases hj : j < n * z.size
  · have h0 : 0 < z.size := by
      rcases Nat.eq_zero_or_pos z.size with h | h
      · rw [h] at hj; omega
      · exact h
    rw [show ((cellsZero z.toList n).toArray)[j]? = (cellsZero z.toList n)[j]? from by simp, cellsZero_get _ (by simpa using h0) _ _ (by simpa using hj)]
    have hm : j % z.size < z.size := Nat.mod_lt _ h0
    simp only [Array.getElem?_map]
    rw [show (Array.range (n * z.size))[j]? = some j from by simp [hj]]
    simp only [Option.map_some, Array.length_toList, Array.getElem?_toList]
    rw [Array.getElem?_eq_getElem hm, getElem!_pos z _ hm]
  · rw [Array.getElem?_eq_none (by simp; omega), Array.getElem?_eq_none (by simp [cellsZero_len]; omega)]

theorem range0 {α : Type} (f : Nat → α) : (Array.range 0).map f = #[] := by simp

section
variable {C : Cx} {P : Program} {φ : Phi} {D : Nat → Prop} {s : St} {w : World} {e : E} {a : Act}

theorem cellsZero_den (φ : Phi) (l : List Value) : ∀ n, denL φ (cellsZero l n) = cellsZero (denL φ l) n
  | 0 => rfl
  | n + 1 => by simp only [cellsZero]; rw [← cellsZero_den φ l n]; simp [denL_map]
theorem cellsZero_ok {l : List Value} (h : OkL D l) : ∀ n, OkL D (cellsZero l n)
  | 0 => trivial
  | n + 1 => by
    have ih := cellsZero_ok h n
    simp only [cellsZero]
    rw [OkL_iff] at h ih ⊢
    intro x hx
    rcases List.mem_append.1 hx with hx | hx
    · exact h x hx
    · exact ih x hx

theorem zero_info {t : TypeId} {z : Value} (h : C.zero t = some z) : ∃ i, C.types.get t = some i ∧ i.zero = some z := by
  rw [Cx.zero_eq] at h; unfold zero0 at h
  split at h
  · rename_i i hi
    split at h
    · rename_i z' hz
      rcases bool_split h with ⟨_, h⟩ | ⟨_, h⟩
      · cases h; exact ⟨i, hi, hz⟩
      · cases h
    · cases h
  · cases h

theorem zero_cells_den (hC : CxOk C P) {t : TypeId} {z : Value} {n : Nat} (h : C.zero t = some z) (hn : C.size t = some n) (φ : Phi) (D : Nat → Prop) :
    z.cells.size = n ∧ denL φ (cellsOf' z) = cellsOf' z ∧ OkL D (cellsOf' z) ∧ (∀ w, (zeroValue t).run P w = .ok z w) := by
  obtain ⟨h1, h2⟩ := zero_of hC h
  have hcl := closed_den φ D z h2
  obtain ⟨i, hi, hz⟩ := zero_info h
  refine ⟨?_, ?_, cellsOf_ok hcl.2, h1⟩
  · rw [hC.zsize _ _ _ hi hz]; simp [Cx.size_eq, size0, hi] at hn; exact hn
  · rw [denL_map, ← cellsOf_den, hcl.1]

theorem op_buildSlice (hC : CxOk C P) (hr : Rel C φ D s.heap w) (he : ERel φ D e a) (hn : ¬ D s.next) {t : TypeId} {len : Nat} {parts : Array (Nat × Operand)} {ps : List (Nat × Value)} (hp : partsA C e parts.toList = some ps) :
    OpOk C φ D s w (buildSliceA C t len ps s) ((do pure (.value (← Instr.buildSlice t len (parts.map fun (i, x) => (i, a.eval x)))) : Sem Next).run P w) := by
  obtain ⟨h1, h2⟩ := partsA_sound hC hr he hp
  generalize hg : buildSliceA C t len ps s = res
  unfold buildSliceA at hg
  split at hg
  case h_2 => subst hg; trivial
  rename_i elem hu
  split at hg
  case h_2 => subst hg; trivial
  rename_i n z hsz hz
  replace hg := bool_split hg; rcases hg with ⟨hle, hg⟩ | ⟨_, hg⟩
  case inr => subst hg; trivial
  rw [ble_iff] at hle
  split at hg
  case h_2 => subst hg; trivial
  rename_i l hl
  subst hg
  obtain ⟨hzs, hzd, hzo, hzr⟩ := zero_cells_den hC hz hsz φ D
  have hf := fill_den φ (place := fun i => some (i * n, n)) (place' := fun i => some (i * n, n)) (fun i p hp => hp) ps _ l hl
  have hrange : (denL φ (cellsZero (cellsOf' z) len)).toArray = (Array.range (len * n)).map (fun i => z.cells[i % z.cells.size]!) := by
    rw [← hzs, range_zero, cellsZero_den, hzd, cellsOf_eq]
  have hps : (parts.map fun (i, x) => (i, a.eval x)).toList = ps.map fun p => (p.1, den φ p.2) := by rw [Array.toList_map]; exact h1
  refine After.cells (w' := { w with heap := w.heap.push (.cells (denL φ l).toArray elem) }) (c := (denL φ l).toArray) (fr := (0, 0)) (sl := 0) (sz := n) hr hn rfl rfl rfl rfl
    (fillL_ok ps _ l hl h2 (cellsZero_ok hzo len)) hsz (by simp [denL_map]) (fun j v hj => by simp [denL_map, hj]) (.inl rfl) ?_
  refine ⟨.value (.slice (some ⟨w.heap.size, 0, none⟩) len len), ?_, ok_newSlice _ _ _ _, (den_newSliceE _ _ _ _ _ _).symm⟩
  simp only [Instr.buildSlice, Sem.run_bind, run_und hC hu, Result.andThen_ok, run_size hC hsz]
  rw [if_neg (by omega)]
  by_cases h0 : len * n = 0
  · simp only [Sem.run_pure, Result.andThen_ok, if_pos h0]
    rw [h0] at hrange
    rw [range0] at hrange
    rw [hrange] at hf
    simp only [h0, range0, hps, hf, newRow, Sem.run_bind, run_newObj, Sem.run_pure, Result.andThen_ok]
  · simp only [Sem.run_pure, Result.andThen_ok, if_neg h0, Sem.run_bind, hzr, hps]
    rw [← hrange, hf]
    simp only [newRow, Sem.run_bind, run_newObj, Sem.run_pure, Result.andThen_ok]

theorem op_makeSlice (hC : CxOk C P) (hr : Rel C φ D s.heap w) (hn : ¬ D s.next) {t : TypeId} {len cap : Value} :
    OpOk C φ D s w (makeSliceA C t len cap s) ((do pure (.value (← Instr.makeSlice t (den φ len) (den φ cap))) : Sem Next).run P w) := by
  generalize hg : makeSliceA C t len cap s = res
  unfold makeSliceA at hg
  split at hg
  case h_2 => subst hg; trivial
  rename_i elem k1 l k2 c hu
  split at hg
  case h_2 => subst hg; trivial
  rename_i ei z hei hz
  replace hg := bool_split hg; rcases hg with ⟨hc, hg⟩ | ⟨_, hg⟩
  case inr => subst hg; trivial
  simp only [Bool.and_eq_true, ble_iff] at hc
  obtain ⟨⟨hlc, hb⟩, hcb⟩ := hc
  subst hg
  have hsz : C.size elem = some ei.size := by rw [Cx.size_eq]; unfold size0; rw [show C.types.get elem = some ei from hei]; rfl
  obtain ⟨hzs, hzd, hzo, hzr⟩ := zero_cells_den hC hz hsz φ D
  have hw64 : ∀ n : Nat, n ≤ 1099511627776 → IntKind.i64.wrap (n : Int) = n := by
    intro n hn
    exact IntWalk.i64_in _ (by omega)
  have hrange : (denL φ (cellsZero (cellsOf' z) c)).toArray = (Array.range (c * ei.size)).map (fun i => z.cells[i % z.cells.size]!) := by
    rw [← hzs, range_zero, cellsZero_den, hzd, cellsOf_eq]
  have hbi : ((ei.bytes : Int) * (c : Int)) ≤ 1099511627776 := by
    have : ((ei.bytes * c : Nat) : Int) ≤ 1099511627776 := by omega
    simpa using this
  have hbl : ((ei.bytes : Int) * (l : Int)) ≤ 1099511627776 := by
    have h1 : ei.bytes * l ≤ ei.bytes * c := Nat.mul_le_mul_left _ hlc
    have : ((ei.bytes * l : Nat) : Int) ≤ 1099511627776 := by omega
    simpa using this
  refine After.cells (w' := { w with heap := w.heap.push (.cells (denL φ (cellsZero (cellsOf' z) c)).toArray elem) }) (c := (denL φ (cellsZero (cellsOf' z) c)).toArray) (fr := (0, 0)) (sl := 0) (sz := ei.size) hr hn rfl rfl rfl rfl
    (cellsZero_ok hzo c) hsz (by simp [denL_map]) (fun j v hj => by simp [denL_map, hj]) (.inl rfl) ?_
  refine ⟨.value (.slice (some ⟨w.heap.size, 0, none⟩) l c), ?_, ok_newSlice _ _ _ _, (den_newSliceE _ _ _ _ _ _).symm⟩
  simp only [Instr.makeSlice, den, Sem.run_bind, run_und hC hu, Result.andThen_ok, asInt, asIntOf, Sem.run_pure, Int.ofNat_eq_natCast, run_info hC hei, hw64 l (by omega), hw64 c hcb]
  rw [if_neg (by simp; omega)]
  simp only [Sem.run_bind, Sem.run_pure, Result.andThen_ok, run_askRoom, run_size hC hsz, Int.toNat_natCast]
  by_cases h0 : c * ei.size = 0
  · simp only [Sem.run_pure, Result.andThen_ok, if_pos h0]
    rw [h0] at hrange
    rw [range0] at hrange
    simp only [h0, range0, hrange, newRow, Sem.run_bind, run_newObj, Sem.run_pure, Result.andThen_ok]
  · simp only [Sem.run_pure, Result.andThen_ok, if_neg h0, Sem.run_bind, hzr]
    rw [← hrange]
    simp only [newRow, Sem.run_bind, run_newObj, Sem.run_pure, Result.andThen_ok]

theorem append_sound (hC : CxOk C P) (hr : Rel C φ D s.heap w) (hn : ¬ D s.next) {argTypes : Array TypeId} {type : TypeId} {args : List Value} (hok : OkL D args) :
    OpOk C φ D s w (appendA C argTypes.toList args s) ((do pure (.value (← Builtin.append_ argTypes type (denL φ args).toArray)) : Sem Next).run P w) := by
  generalize hg : appendA C argTypes.toList args s = res
  unfold appendA at hg
  split at hg
  case h_2 => subst hg; trivial
  rename_i st xt sl x hat
  split at hg
  case h_2 => subst hg; trivial
  rename_i elem xd hst hxt
  simp only [OkL] at hok
  replace hg := bool_split hg; rcases hg with ⟨hi, hg⟩ | ⟨hi, hg⟩
  · split at hg
    case h_2 => subst hg; trivial
    rename_i k' n ei hei
    split at hg
    case h_2 => subst hg; trivial
    rename_i z hz
    replace hg := bool_split hg; rcases hg with ⟨hb, hg⟩ | ⟨_, hg⟩
    case inr => subst hg; trivial
    simp only [Bool.and_eq_true, ble_iff] at hb
    subst hg
    have hsz : C.size elem = some ei.size := by rw [Cx.size_eq]; unfold size0; rw [show C.types.get elem = some ei from hei]; rfl
    obtain ⟨hzs, hzd, hzo, hzr⟩ := zero_cells_den hC hz hsz φ D
    have hzi : ei.zero = some z := by
      obtain ⟨i, hi', hz'⟩ := zero_info hz
      rw [show C.types.get elem = some ei from hei] at hi'
      cases hi'; exact hz'
    have hzc : z.cells.size = ei.size := hC.zsize _ _ _ hei hzi
    have hcells : (denL φ (cellsZero (cellsOf' z) n)).toArray = Builtin.zeroCells z.cells n := by
      unfold Builtin.zeroCells
      rw [range_zero, cellsZero_den, hzd, cellsOf_eq]
    refine appendTo_sound (xd := xd) hC hr hn hat hok.1 hst hxt hei hzi (.inr ?_) (cellsZero_ok hzo n) (by rw [cellsZero_len, cellsOf_eq]; simp [hzs])
    cases xd <;> simp only [isIntD, Bool.false_eq_true] at hi
    rename_i k
    exact ⟨k, k', z, rfl, by simp [den], hb.1, hb.2, hC.info _ _ hei, hzi, hzc, hcells⟩
  · split at hg
    case h_2 => subst hg; trivial
    rename_i ei hei
    split at hg
    case h_2 => subst hg; trivial
    rename_i z hz
    split at hg
    case h_2 => subst hg; trivial
    rename_i n new hrd
    obtain ⟨hl, hnew, hlen, hfirst⟩ := rd_sound (P := P) hr hrd
    subst hg
    exact appendTo_sound (xd := xd) hC hr hn hat hok.1 hst hxt hei hz (.inl ⟨hi, hl, fun w' hw => rd_all (hr.drew hw) hrd⟩) hnew hlen

theorem clear_sound (hC : CxOk C P) (hr : Rel C φ D s.heap w) {argTypes : Array TypeId} {type : TypeId} {args : List Value} :
    OpOk C φ D s w (clearA C argTypes.toList args s) ((do pure (.value (← Builtin.clear_ argTypes type (denL φ args).toArray)) : Sem Next).run P w) := by
  generalize hg : clearA C argTypes.toList args s = res
  unfold clearA at hg
  split at hg
  case h_2 => subst hg; trivial
  rename_i t rt x rx hat
  have at0 : argTypes[0]? = some t := by rw [← Array.getElem?_toList, hat]; rfl
  have av0 : (denL φ (x :: rx)).toArray[0]? = some (den φ x) := by simp [denL]
  have hnil : den φ (.tuple #[]) = .tuple #[] := by simp [den, denA, denL]
  have hok : Ok D (.tuple #[]) := by simp [Ok, OkA, OkL]
  have done : ∀ (ad : Option Addr) (len cap : Nat) (el : TypeId), C.und t = some (.slice el) → x = .slice ad len cap → (ad = none ∨ len = 0) →
      OpOk C φ D s w (.ok (.value (.tuple #[])) s) ((do pure (.value (← Builtin.clear_ argTypes type (denL φ (x :: rx)).toArray)) : Sem Next).run P w) := by
    intro ad len cap el hu hx hor
    refine .ok_value hr ?_ hok
    subst hx
    unfold Builtin.clear_
    simp only [at0, av0, Sem.run_bind, run_und hC hu, Result.andThen_ok]
    cases ad with
    | none => simp [den, denA, denL]
    | some ad =>
      rcases hor with h | rfl
      · cases h
      · simp [den, denA, denL]
  split at hg
  · rename_i el len cap hu
    subst hg
    exact done none len cap el hu rfl (.inl rfl)
  · rename_i el b o k cap hu
    subst hg
    exact done _ 0 cap el hu rfl (.inr rfl)
  · rename_i elem b o len cap hu
    split at hg
    · subst hg
      exact done _ 0 cap elem hu rfl (.inr rfl)
    · rename_i len
      split at hg
      case h_2 => subst hg; trivial
      rename_i z hz
      split at hg
      case h_2 => subst hg; trivial
      rename_i s' hw
      subst hg
      obtain ⟨ei, hei, hzi⟩ := zero_info hz
      have hsz : C.size elem = some ei.size := by rw [Cx.size_eq]; unfold size0; rw [hei]; rfl
      obtain ⟨hzs, hzd, hzo, hzr⟩ := zero_cells_den hC hz hsz φ D
      obtain ⟨hnx, w', hst', hr', he'⟩ := writeBlk_sound hr hw (cellsZero_ok hzo (len + 1)) (fun _ => trivial)
      refine ⟨φ, D, w', hr', he', .inl ⟨rfl, hnx⟩, .value (.tuple #[]), ?_, hok, hnil.symm⟩
      have hcells : (denL φ (cellsZero (cellsOf' z) (len + 1))) = (Builtin.zeroCells z.cells (len + 1)).toList := by
        unfold Builtin.zeroCells
        rw [range_zero, cellsZero_den, hzd, cellsOf_eq]
      have hst := hst' P
      rw [hcells] at hst
      unfold Builtin.clear_
      simp only [at0, av0, Sem.run_bind, run_und hC hu, Result.andThen_ok, den_slice]
      simp only [zeroValue, Sem.run_bind] at hzr
      simp [zeroValue, Sem.run_bind, run_info hC hei, hzi, hst]
  · subst hg; trivial

end
end Go.Eng
