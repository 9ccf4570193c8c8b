/- The abstract interpreter: append and copy. -/
import Derived.Test.YtcceecleljcfbaaGreatDoorEngOps9
namespace Go.Eng
set_option linter.unusedVariables false
set_option linter.unusedSimpArgs false

section
variable {C : Cx} {P : Program} {φ : Phi} {D : Nat → Prop} {s : St} {w : World} {e : E} {a : Act}

theorem After.trans_new {s0 s1 s2 : St} {w1 w2 : World} {φ2 : Phi} {D2 : Nat → Prop} {Q : Phi → (Nat → Prop) → World → Prop}
    (h1 : Ext φ D s0.heap w φ D s1.heap w1) (h2 : Ext φ D s1.heap w1 φ2 D2 s2.heap w2) (hr : Rel C φ2 D2 s2.heap w2)
    (hn : (D2 = D ∧ s2.next = s0.next) ∨ (D2 = addD D s0.next ∧ s2.next = s0.next + 1)) (hQ : Q φ2 D2 w2) : After C φ D s0 w s2 Q :=
  ⟨φ2, D2, w2, hr, h1.trans h2, hn, hQ⟩

theorem grow_sound (hC : CxOk C P) (hr : Rel C φ D s.heap w) (hn : ¬ D s.next) {st xt elem : TypeId} {xd : TypeDesc} {ei : TypeInfo} {type : TypeId} {argTypes : Array TypeId} {args : Array Value} {b o len cap n base : Nat} {x : Value} {new : List Value} {z : Value}
    (ha : argTypes.toList = [st, xt]) (hv : args.toList = [.slice (some ⟨(φ b).block, base, none⟩) len (rcap φ b cap), den φ x]) (hbase : base = (φ b).off + o ∨ (len = 0 ∧ rcap φ b cap = 0)) (hs : C.und st = some (.slice elem)) (hx : C.und xt = some xd) (hei : C.types.get elem = some ei)
    (hz : ei.zero = some z) (happ : AppArg P w xd ei elem (den φ x) n (denL φ new).toArray) (hok : OkL D new) (hlen : new.length = n * ei.size) (hneed : capOf cap < len + n) (hroom : roomy (len + n) ei.bytes = true) :
    OpOk C φ D s w (growA s b o len cap (len + n) ei.size elem new) ((do pure (.value (← Builtin.append_ argTypes type args)) : Sem Next).run P w) := by
  generalize hg : growA s b o len cap (len + n) ei.size elem new = res
  unfold growA at hg
  split at hg
  case h_2 => subst hg; trivial
  rename_i vs e0 bs par hb
  split at hg
  case h_2 => subst hg; trivial
  rename_i old hold
  have hold' := hold
  rw [dropN_eq] at hold'
  obtain ⟨holdlen, rfl⟩ := (takeN_some _ _ _).1 hold'
  obtain ⟨ho, c, fr, sz, h1, h2, h3, h4, h5, h6⟩ := hr.blk b _ hb
  have hDb := hr.dom b _ hb
  -- the new row
  have fresh : rcap φ b cap < len + n → ∀ (h0 : T Blk) (par' : Option Nat), Rel C φ D h0 w → Ext φ D s.heap w φ D h0 w →
      OpOk C φ D s w (.ok (.value (.slice (some ⟨s.next, 0, none⟩) (len + n) (2 * (len + n) + 1))) (({ s with heap := h0 } : St).new (.cells ((vs.drop o).take (len * ei.size) ++ new) elem 0 par')))
        ((do pure (.value (← Builtin.append_ argTypes type args)) : Sem Next).run P w) := by
    intro hlt h0 par' hr0 hext
    obtain ⟨q, hq, hrun⟩ := append_grow_run (P := P) (w := w) (type := type) (old := (denL φ ((vs.drop o).take (len * ei.size))).toArray) (new := (denL φ new).toArray) (z := z) hC ha hv hs hx hei happ hlt hroom
      (fun w' hw => by
        have hr' := hr.drew hw
        obtain ⟨_, c', fr', sz', g1, g2, g3, g4, g5⟩ := hr'.blk b _ hb
        rcases hbase with rfl | ⟨rfl, _⟩
        · simp only [Builtin.firstCells]
          exact run_loadCells_blk g1 g4 hold
        · simp [Builtin.firstCells, denL, loadCells]
          rfl)
      ⟨hC.info _ _ hei, hz⟩
    obtain ⟨φ2, D2, w2, ha1, ha2, ha3, ha4⟩ := After.cells (C := C) (s := { s with heap := h0 }) (w := w) (w' := { w with drawn := w.drawn + 1, heap := w.heap.push (.cells ((denL φ ((vs.drop o).take (len * ei.size))).toArray ++ (denL φ new).toArray ++ Builtin.zeroCells z.cells (q - (len + n))) elem) })
      (vs := (vs.drop o).take (len * ei.size) ++ new) (elem := elem) (c := (denL φ ((vs.drop o).take (len * ei.size))).toArray ++ (denL φ new).toArray ++ Builtin.zeroCells z.cells (q - (len + n))) (fr := (0, 0)) (sl := q - (len + n)) (sz := ei.size) (st := 0) (par := par') hr0 hn rfl rfl rfl rfl
      (by
        rw [OkL_iff] at ho hok ⊢
        intro y hy
        rcases List.mem_append.1 hy with hy | hy
        · exact ho y (List.mem_of_mem_drop (List.mem_of_mem_take hy))
        · exact hok y hy)
      (by simp [Cx.size_eq, size0, hei])
      (by
        have hzz : z.cells.size = ei.size := hC.zsize _ _ _ hei hz
        simp only [Array.size_append, List.size_toArray, denL_map, List.length_map, List.length_append, append_zero_len z, hzz]
        omega)
      (by
        intro j v hj
        have hjl := (List.getElem?_eq_some_iff.1 hj).1
        rw [Array.append_assoc, ← Array.append_assoc, Array.getElem?_append_left (by simp [denL_map] at hjl ⊢; omega)]
        rw [List.append_toArray, ← show denL φ ((vs.drop o).take (len * ei.size) ++ new) = denL φ ((vs.drop o).take (len * ei.size)) ++ denL φ new from by simp [denL_map]]
        simp only [List.getElem?_toArray, getElem?_denL, hj]; rfl)
      (.inl rfl) (Q := fun φ' D' w' => ∃ nx', (do pure (.value (← Builtin.append_ argTypes type args)) : Sem Next).run P w = .ok nx' w' ∧ NRel φ' D' (h0.set s.next (.cells ((vs.drop o).take (len * ei.size) ++ new) elem 0 par')) (.value (.slice (some ⟨s.next, 0, none⟩) (len + n) (2 * (len + n) + 1))) nx')
      (by
        refine ⟨.value (.slice (some ⟨w.heap.size, 0, none⟩) (len + n) q), ?_, ok_newSlice _ _ _ _, ?_⟩
        · simp only [Sem.run_bind, hrun, Result.andThen_ok, Sem.run_pure]
        · rw [den_newSlice]; congr 1; omega)
    exact ⟨φ2, D2, w2, ha1, hext.trans ha2, ha3, ha4⟩
  cases hop : opn cap with
  | false =>
    rw [hop] at hg
    simp only [cond_false] at hg
    subst hg
    have hcap := opn_false hop
    exact fresh (by rw [hcap, rcap_even]; exact hneed) s.heap none hr (Ext.refl ..)
  | true =>
    rw [hop] at hg
    simp only [cond_true] at hg
    replace hg := bool_split hg; rcases hg with ⟨hc, hg⟩ | ⟨_, hg⟩
    case inr => subst hg; trivial
    simp only [Bool.and_eq_true, beq_iff, Bool.not_eq_true'] at hc
    obtain ⟨rfl, hend, hlc, rfl, hpi, hone⟩ := hc
    subst hg
    have hcap := opn_true hop
    have hparid : par ≠ some b := by rintro rfl; simp [parIs] at hpi
    have hk := killPar_rel hr par
    have hke := killPar_ext (φ := φ) (D := D) (w := w) s par
    have hb2 : (killPar s par).heap.get b = some (.cells vs e0 0 par) := by
      cases par with
      | none => exact hb
      | some q =>
        simp only [killPar]
        rw [T.get_del, if_neg (fun e => hparid (by rw [e])), hb]
    by_cases hfit : len + n ≤ rcap φ b cap
    · -- where it lies
      have hbase' : base = (φ b).off + o := by
        rcases hbase with h | ⟨_, h⟩
        · exact h
        · omega
      subst hbase'
      have hfit' : len + n ≤ capOf cap + (φ b).slack := by rw [hcap, rcap_odd] at hfit; exact hfit
      obtain ⟨w1, φ1, hφ1, hst, hr1, he1⟩ := hk.growPlace (k := s.next) hb2 (by
          intro q hq
          subst hq
          simp [killPar, T.get_del]) hn (by simp [Cx.size_eq, size0, hei]) hend.1 hend.2 hlc hfit' hlen hok hone
      refine ⟨φ1, addD D s.next, w1, hr1, hke.trans he1, .inr ⟨rfl, rfl⟩, .value (.slice (some ⟨(φ b).block, (φ b).off + o, none⟩) (len + n) (rcap φ b cap)), ?_, ?_, ?_⟩
      · have := append_place_run (P := P) (w := w) (type := type) (w' := w1) hC ha hv hs hx hei happ hfit (.inl ⟨_, rfl, by
          rw [addr_add]
          have := hst P
          rw [← Nat.add_assoc] at this
          simpa using this⟩)
        simp only [Sem.run_bind, this, Result.andThen_ok, Sem.run_pure]
      · exact ok_newSlice _ _ _ _
      · rw [hφ1, den_slice, rcap_odd]
        simp only [updPhi, if_pos]
        rw [hcap, rcap_odd]
        congr 1
        have : capOf (2 * capOf cap + 1) = capOf cap := by unfold capOf; omega
        omega
    · -- in a new row
      have hs1 := Rel.share (s := killPar s par) hk hb2
      exact fresh (by omega) _ (some b) hs1.1 (hke.trans hs1.2)


theorem appendTo_sound (hC : CxOk C P) (hr : Rel C φ D s.heap w) (hn : ¬ D s.next) {st xt elem : TypeId} {xd : TypeDesc} {ei : TypeInfo} {type : TypeId} {argTypes : Array TypeId} {n : Nat} {sl x : Value} {new : List Value} {z : Value}
    (hat : argTypes.toList = [st, xt]) (hok : Ok D sl) (hst : C.und st = some (.slice elem)) (hxt : C.und xt = some xd) (hei : C.types.get elem = some ei)
    (hz : ei.zero = some z) (happ : AppArg P w xd ei elem (den φ x) n (denL φ new).toArray) (hnew : OkL D new) (hlen : new.length = n * ei.size) :
    OpOk C φ D s w (appendTo s elem ei.size ei.bytes n new sl) ((do pure (.value (← Builtin.append_ argTypes type (denL φ [sl, x]).toArray)) : Sem Next).run P w) := by
  generalize hg : appendTo s elem ei.size ei.bytes n new sl = res
  have hv : (denL φ [sl, x]).toArray.toList = [den φ sl, den φ x] := by simp [denL]
  unfold appendTo at hg
  split at hg
  · rename_i len cap
    replace hg := bool_split hg; rcases hg with ⟨hc, hg⟩ | ⟨_, hg⟩
    case inr => subst hg; trivial
    simp only [Bool.and_eq_true, beq_iff] at hc
    obtain ⟨rfl, rfl⟩ := hc
    replace hg := bool_split hg; rcases hg with ⟨h0, hg⟩ | ⟨h0, hg⟩
    · rw [beq_iff] at h0
      subst h0
      subst hg
      refine .ok_value hr ?_ (by simp [Ok])
      have := append_place_run (P := P) (w := w) (type := type) (w' := w) (x := den φ x) (base := none) (sLen := 0) (sCap := 0) (n := 0) hC hat (by rw [hv]; simp only [den]) hst hxt hei happ (Nat.le_refl _) (.inr ⟨rfl, rfl⟩)
      simp only [Sem.run_bind, this, Result.andThen_ok, Sem.run_pure, den]
    · have h0' := beq_false h0
      replace hg := bool_split hg; rcases hg with ⟨hroom, hg⟩ | ⟨_, hg⟩
      case inr => subst hg; trivial
      subst hg
      obtain ⟨q, hq, hrun⟩ := append_grow_run (P := P) (w := w) (type := type) (old := #[]) (new := (denL φ new).toArray) (z := z) (x := den φ x) (base := none) (sLen := 0) (sCap := 0) hC hat (by rw [hv]; simp only [den]) hst hxt hei happ (by omega) (by rw [Nat.zero_add]; exact hroom)
        (fun w' hw => by simp [Builtin.firstCells]) ⟨hC.info _ _ hei, hz⟩
      rw [Nat.zero_add] at hq hrun
      refine After.cells (w' := { w with drawn := w.drawn + 1, heap := w.heap.push (.cells (#[] ++ (denL φ new).toArray ++ Builtin.zeroCells z.cells (q - n)) elem) })
        (c := #[] ++ (denL φ new).toArray ++ Builtin.zeroCells z.cells (q - n)) (fr := (0, 0)) (sl := q - n) (sz := ei.size) hr hn rfl rfl rfl rfl hnew (by simp [Cx.size_eq, size0, show C.types.get elem = some ei from hei]) ?_ ?_ (.inl rfl) ?_
      · simp only [Array.empty_append, Array.size_append, List.size_toArray, denL_map, List.length_map, append_zero_len z, hC.zsize _ _ _ hei hz]
        omega
      · intro j v hj
        have hjl := (List.getElem?_eq_some_iff.1 hj).1
        rw [Array.empty_append, Array.getElem?_append_left (by simp [denL_map]; omega)]
        simp only [List.getElem?_toArray, getElem?_denL, hj]; rfl
      · refine ⟨.value (.slice (some ⟨w.heap.size, 0, none⟩) n q), ?_, ok_newSlice _ _ _ _, ?_⟩
        · simp only [Sem.run_bind, hrun, Result.andThen_ok, Sem.run_pure]
        · rw [den_newSlice]; congr 1; omega
  · rename_i b o len cap
    replace hg := bool_split hg; rcases hg with ⟨hle, hg⟩ | ⟨hle, hg⟩
    · rw [ble_iff] at hle
      split at hg
      case h_2 => subst hg; trivial
      rename_i s' hw
      subst hg
      obtain ⟨hnx, w', hst', hr', he'⟩ := writeBlk_sound hr hw hnew (fun _ => trivial)
      refine ⟨φ, D, w', hr', he', .inl ⟨rfl, hnx⟩, .value (.slice (some ⟨(φ b).block, (φ b).off + o, none⟩) (len + n) (rcap φ b cap)), ?_, ?_, (den_slice ..).symm⟩
      · have := append_place_run (P := P) (w := w) (type := type) (w' := w') hC hat (by rw [hv, den_slice]) hst hxt hei happ (Nat.le_trans hle (capOf_le φ b cap)) (.inl ⟨_, rfl, by
          rw [addr_add]
          have := hst' P
          rw [← Nat.add_assoc] at this
          simpa using this⟩)
        simp only [Sem.run_bind, this, Result.andThen_ok, Sem.run_pure]
      · simp only [Ok]; exact ⟨trivial, ok_slice hok⟩
    · have hlt := ble_false hle
      replace hg := bool_split hg; rcases hg with ⟨hroom, hg⟩ | ⟨_, hg⟩
      case inr => subst hg; trivial
      subst hg
      exact grow_sound hC hr hn hat (by rw [hv, den_slice]) (.inl rfl) hst hxt hei hz happ hnew hlen hlt hroom
  · rename_i b o k len cap
    replace hg := bool_split hg; rcases hg with ⟨hc, hg⟩ | ⟨_, hg⟩
    case inr => subst hg; trivial
    simp only [Bool.and_eq_true, beq_iff] at hc
    obtain ⟨rfl, rfl⟩ := hc
    have hval : den φ (.slice (some ⟨b, o, some k⟩) 0 1) = .slice (some ⟨(φ b).block, (φ b).off + o + spotOf φ ⟨b, o, some k⟩, none⟩) 0 (rcap φ b 1) := by simp only [den, rcap]
    replace hg := bool_split hg; rcases hg with ⟨h0, hg⟩ | ⟨h0, hg⟩
    · rw [beq_iff] at h0
      subst h0
      subst hg
      have hnew0 : new = [] := List.length_eq_zero_iff.1 (by rw [hlen]; omega)
      subst hnew0
      refine .ok_value hr ?_ hok
      have := append_place_run (P := P) (w := w) (type := type) (w' := w) (x := den φ x) (base := some ⟨(φ b).block, (φ b).off + o + spotOf φ ⟨b, o, some k⟩, none⟩) (sLen := 0) (sCap := rcap φ b 1) (n := 0) hC hat (by rw [hv, hval]) hst hxt hei happ (by omega) (.inl ⟨_, rfl, by simp [denL, storeCells]⟩)
      simp only [Sem.run_bind, this, Result.andThen_ok, Sem.run_pure, hval]
    · have h0' := beq_false h0
      replace hg := bool_split hg; rcases hg with ⟨hroom, hg⟩ | ⟨_, hg⟩
      case inr => subst hg; trivial
      subst hg
      refine grow_sound (base := (φ b).off + o + spotOf φ ⟨b, o, some k⟩) hC hr hn hat (by rw [hv, hval]) ?_ hst hxt hei hz happ hnew hlen (by unfold capOf; omega) hroom
      by_cases hs : (φ b).slack = 0
      · right; simp [rcap, hs]
      · left; simp [spotOf, hs, Nat.add_assoc]
  · subst hg; trivial

theorem copy_sound (hC : CxOk C P) (hr : Rel C φ D s.heap w) {argTypes : Array TypeId} {type : TypeId} {args : List Value} (hok : OkL D args) :
    OpOk C φ D s w (copyA C argTypes.toList args s) ((do pure (.value (← Builtin.copy_ argTypes type (denL φ args).toArray)) : Sem Next).run P w) := by
  generalize hg : copyA C argTypes.toList args s = res
  unfold copyA at hg
  split at hg
  case h_2 => subst hg; trivial
  rename_i dt rest dst x hat
  split at hg
  case h_2 => subst hg; trivial
  rename_i elem hdt
  split at hg
  case h_2 => subst hg; trivial
  rename_i size hsz
  split at hg
  case h_2 => subst hg; trivial
  rename_i n new hrd
  obtain ⟨hl, hnew, hlen, hfirst⟩ := rd_sound (P := P) hr hrd
  simp only [OkL] at hok
  have at0 : argTypes[0]? = some dt := by rw [← Array.getElem?_toList, hat]; rfl
  have av0 : (denL φ [dst, x]).toArray[0]? = some (den φ dst) := by simp [denL]
  have av1 : (denL φ [dst, x]).toArray[1]? = some (den φ x) := by simp [denL]
  split at hg
  · rename_i len cap
    replace hg := bool_split hg; rcases hg with ⟨hc, hg⟩ | ⟨_, hg⟩
    case inr => subst hg; trivial
    rw [beq_iff] at hc
    subst hc
    subst hg
    refine .ok_value hr ?_ (by simp [Ok])
    have h0 := hfirst 0 [] (Nat.zero_le _) (by rw [takeN_some]; simp)
    unfold Builtin.copy_
    simp only [at0, av0, av1, Sem.run_bind, run_und hC hdt, Result.andThen_ok, den, hl, run_size hC hsz, Nat.min_zero]
    simp [denL] at h0
    simp [h0, goInt]
  · rename_i b o len cap
    split at hg
    case h_2 => subst hg; trivial
    rename_i new' hnew'
    split at hg
    case h_2 => subst hg; trivial
    rename_i s' hw
    subst hg
    have hmin : minN n len = Nat.min n len := by
      unfold minN
      cases hq : Nat.ble n len with
      | true => have := ble_iff.1 hq; simp only [cond_true]; exact (Nat.min_eq_left this).symm
      | false => have := ble_false hq; simp only [cond_false]; exact (Nat.min_eq_right (by omega)).symm
    rw [hmin] at hnew' ⊢
    have hok' : OkL D new' := by
      obtain ⟨_, rfl⟩ := (takeN_some _ _ _).1 hnew'
      rw [OkL_iff] at hnew ⊢
      exact fun y hy => hnew y (List.mem_of_mem_take hy)
    obtain ⟨hnx, w', hst', hr', he'⟩ := writeBlk_sound hr hw hok' (fun _ => trivial)
    refine ⟨φ, D, w', hr', he', .inl ⟨rfl, hnx⟩, .value (.int .i64 (Nat.min n len : Nat)), ?_, by simp [Ok], by simp [den]⟩
    have h0 := hfirst (Nat.min n len) new' (Nat.min_le_left _ _) hnew'
    unfold Builtin.copy_
    simp only [at0, av0, av1, Sem.run_bind, run_und hC hdt, Result.andThen_ok, den_slice, hl, run_size hC hsz, h0, hst' P, Sem.run_pure, goInt]
  · subst hg; trivial

end
end Go.Eng
