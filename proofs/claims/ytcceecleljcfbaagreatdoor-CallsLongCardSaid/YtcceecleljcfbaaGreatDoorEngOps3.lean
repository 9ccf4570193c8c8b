/- The abstract interpreter: loads and stores. -/
import Derived.Test.YtcceecleljcfbaaGreatDoorEngOps2
namespace Go.Eng
set_option linter.unusedSimpArgs false
set_option linter.unusedVariables false

/-- The world with block b turned. -/
def setB (w : World) (b : Nat) (o : Obj) : World := { w with heap := w.heap.setIfInBounds b o }

theorem setB_same {w : World} {b : Nat} {o : Obj} (hb : b < w.heap.size) : (setB w b o).heap[b]? = some o := by
  simp only [setB]; rw [Array.getElem?_setIfInBounds_self_of_lt hb]
theorem setB_other {w : World} {b k : Nat} {o : Obj} (h : k ≠ b) : (setB w b o).heap[k]? = w.heap[k]? := by
  simp only [setB]; rw [Array.getElem?_setIfInBounds_ne (by omega)]
theorem setB_size (w : World) (b : Nat) (o : Obj) : (setB w b o).heap.size = w.heap.size := by simp [setB]
theorem world_ext {w w' : World} (h1 : w.heap = w'.heap) (h2 : w.tape = w'.tape) (h3 : w.drawn = w'.drawn) (h4 : w.os = w'.os) (h5 : w.output = w'.output) : w = w' := by
  cases w; cases w'; simp_all
theorem setB_self {w : World} {b : Nat} {o : Obj} (h : w.heap[b]? = some o) : setB w b o = w := by
  refine world_ext ?_ rfl rfl rfl rfl
  apply Array.ext_getElem?
  intro k
  by_cases hk : k = b
  · subst hk; rw [setB_same (heap_lt h), h]
  · rw [setB_other hk]
theorem setB_setB (w : World) (b : Nat) (o o' : Obj) : setB (setB w b o) b o' = setB w b o' := by
  refine world_ext ?_ rfl rfl rfl rfl
  apply Array.ext_getElem?
  intro k
  by_cases hk : k = b
  · subst hk
    by_cases hlt : k < w.heap.size
    · rw [setB_same (by rw [setB_size]; exact hlt), setB_same hlt]
    · rw [Array.getElem?_eq_none (by rw [setB_size, setB_size]; omega), Array.getElem?_eq_none (by rw [setB_size]; omega)]
  · rw [setB_other hk, setB_other hk, setB_other hk]

theorem setCell_setB {w : World} {b o : Nat} {c : Array Value} {e : TypeId} {fr : Nat × Nat} {v : Value} (h : w.heap[b]? = some (.cells c e fr)) :
    w.setCell ⟨b, o, none⟩ v = setB w b (.cells (c.setIfInBounds o v) e fr) := by
  refine world_ext ?_ rfl rfl rfl rfl
  apply Array.ext_getElem?
  intro k
  by_cases hk : k = b
  · subst hk
    rw [setB_same (heap_lt h)]
    simp only [World.setCell, Array.getElem?_modify, if_true, h, Option.map_some]
    simp
  · rw [setB_other hk]
    simp only [World.setCell, Array.getElem?_modify]
    rw [if_neg (by omega)]

theorem addr_add (b o j : Nat) : (⟨b, o, none⟩ : Addr).add j = ⟨b, o + j, none⟩ := by unfold Addr.add; split <;> simp_all

theorem cell_of {w : World} {b o : Nat} {c : Array Value} {e : TypeId} {fr : Nat × Nat} (h : w.heap[b]? = some (.cells c e fr)) : w.cell? ⟨b, o, none⟩ = c[o]? := by
  simp [World.cell?, h]
theorem frozen_of {w : World} {b o : Nat} {c : Array Value} {e : TypeId} {fr : Nat × Nat} (h : w.heap[b]? = some (.cells c e fr)) (hf : fr.1 = fr.2 ∨ c.size ≤ fr.1) (ho : o < c.size) : w.frozen? ⟨b, o, none⟩ = false := by
  obtain ⟨lo, hi⟩ := fr
  simp only [World.frozen?, h]
  simp at hf ⊢
  omega

theorem run_storeCells_wr (P : Program) (b o : Nat) (e : TypeId) (fr : Nat × Nat) : ∀ (vs : List Value) (i : Nat) (c : Array Value) (w : World), w.heap[b]? = some (.cells c e fr) →
    o + i + vs.length ≤ c.size → (fr.1 = fr.2 ∨ c.size ≤ fr.1) → oneCells vs = true →
    (storeCells ⟨b, o, none⟩ vs i).run P w = .ok () (setB w b (.cells (wr c (o + i) vs) e fr))
  | [], i, c, w, h, _, _, _ => by
    simp only [storeCells, Sem.run_pure, wr]
    rw [setB_self h]
  | v :: r, i, c, w, h, hl, hf, h1 => by
    simp only [oneCells, Bool.and_eq_true] at h1
    simp only [List.length_cons] at hl
    simp only [storeCells, Sem.run_bind, addr_add]
    rw [run_store P w _ v _ h1.1, cell_of h]
    have hlt : o + i < c.size := by omega
    rw [Array.getElem?_eq_getElem hlt]
    simp only [frozen_of h hf hlt, Bool.false_eq_true, if_false, Result.andThen_ok]
    rw [setCell_setB h, run_storeCells_wr P b o e fr r (i + 1) (c.setIfInBounds (o + i) v) _ (setB_same (heap_lt h)) (by simp; omega) (by simpa using hf) h1.2, setB_setB]
    rfl

section
variable {C : Cx} {P : Program} {φ : Phi} {D : Nat → Prop} {s : St} {w : World} {e : E} {a : Act}

/-- Cells in a row, as they are read. -/
theorem run_loadCells_blk {vs l : List Value} {c : Array Value} {elem : TypeId} {fr : Nat × Nat} {b p off n : Nat} (hb : w.heap[b]? = some (.cells c elem fr))
    (hcs : ∀ (j : Nat) (v : Value), vs[j]? = some v → c[p + j]? = some (den φ v)) (hl : takeN n (dropN off vs) = some l) :
    (loadCells ⟨b, p + off, none⟩ n).run P w = .ok (denL φ l).toArray w := by
  rw [dropN_eq] at hl
  obtain ⟨h1, rfl⟩ := (takeN_some _ _ _).1 hl
  have hlen : (denL φ ((vs.drop off).take n)).length = n := by rw [denL_map]; simp at h1 ⊢; omega
  have := run_loadCells_list (P := P) w ⟨b, p + off, none⟩ (denL φ ((vs.drop off).take n)) (fun j v hj => by
    rw [addr_add, cell_of hb]
    rw [getElem?_denL] at hj
    obtain ⟨u, hu, rfl⟩ := Option.map_eq_some_iff.1 hj
    have hjn : j < n := by
      have := (List.getElem?_eq_some_iff.1 hu).1
      simp at this; omega
    rw [List.getElem?_take_of_lt hjn, List.getElem?_drop] at hu
    rw [Nat.add_assoc]
    exact hcs _ _ hu)
  rw [hlen] at this
  exact this

theorem loadVar_sound (hC : CxOk C P) (hr : Rel C φ D s.heap w) {t : TypeId} {id off : Nat} {v : Value} (h : loadA C t (.pointer (some ⟨id, off, none⟩)) s = some v) :
    (loadVar t ⟨(φ id).block, (φ id).off + off, none⟩).run P w = .ok (den φ v) w ∧ Ok D v := by
  simp only [loadA] at h
  split at h
  case h_2 => cases h
  rename_i vs elem st par hid
  obtain ⟨ho, c, fr, sz, h1, h2, h3, h4, h5, h6⟩ := hr.blk id _ hid
  split at h
  case h_2 => cases h
  rename_i d hd
  cases ha : isAggD d with
  | true =>
    rw [ha] at h
    simp only [cond_true] at h
    split at h
    case h_2 => cases h
    rename_i n hn
    split at h
    case h_2 => cases h
    rename_i l hl
    cases h
    refine ⟨?_, ?_⟩
    · simp only [loadVar, Sem.run_bind, run_isAgg hC hd, ha, Result.andThen_ok, if_true, run_size hC hn, run_loadCells_blk h1 h4 hl, Sem.run_pure, den, denA]
    · simp only [Ok, OkA]
      rw [OkL_iff] at ho ⊢
      rw [dropN_eq] at hl
      obtain ⟨_, rfl⟩ := (takeN_some _ _ _).1 hl
      exact fun x hx => ho x (List.mem_of_mem_drop (List.mem_of_mem_take hx))
  | false =>
    rw [ha] at h
    simp only [cond_false] at h
    rw [nth_eq] at h
    refine ⟨?_, (OkL_iff D vs).1 ho v (List.mem_of_getElem? h)⟩
    simp only [loadVar, Sem.run_bind, run_isAgg hC hd, ha, Result.andThen_ok, Bool.false_eq_true, if_false]
    rw [run_load, cell_of h1, h4 _ _ h]

theorem loadA_ptr {t : TypeId} {p v : Value} (h : loadA C t p s = some v) : ∃ id off, p = .pointer (some ⟨id, off, none⟩) := by
  unfold loadA at h
  split at h
  · exact ⟨_, _, rfl⟩
  · cases h

theorem loadA_sound (hC : CxOk C P) (hr : Rel C φ D s.heap w) {t : TypeId} {p v : Value} (h : loadA C t p s = some v) :
    (Instr.loadAt t (den φ p)).run P w = .ok (den φ v) w ∧ Ok D v := by
  obtain ⟨id, off, rfl⟩ := loadA_ptr h
  have := loadVar_sound hC hr h
  refine ⟨?_, this.2⟩
  simp only [Instr.loadAt, Instr.sureAddr, den, Sem.run_bind, Sem.run_pure, Result.andThen_ok, this.1]

theorem op_load (hC : CxOk C P) (hr : Rel C φ D s.heap w) (he : ERel φ D e a) {t : TypeId} {x : Operand} {p : Value} (hx : e.eval C x = some p) :
    OpOk C φ D s w (ovalue (loadA C t p s) s) ((do pure (.value (← Instr.loadAt t (a.eval x))) : Sem Next).run P w) :=
  .value hr fun v hv => by
    have h1 := eval_sound hC hr he hx
    have h2 := loadA_sound hC hr hv
    exact ⟨by simp [h1.1, h2.1], h2.2⟩

/-! ### stores -/
theorem killPar_heap (s : St) (par : Option Nat) (i : Nat) (b : Blk) (h : (killPar s par).heap.get i = some b) : s.heap.get i = some b := by
  cases par with
  | none => exact h
  | some q =>
    simp only [killPar] at h
    rw [T.get_del] at h
    split at h
    · cases h
    · exact h

theorem killPar_rel {s : St} (hr : Rel C φ D s.heap w) (par : Option Nat) : Rel C φ D (killPar s par).heap w := by
  cases par with
  | none => exact hr
  | some q => exact hr.del q
theorem killPar_ext (s : St) (par : Option Nat) : Ext φ D s.heap w φ D (killPar s par).heap w := by
  cases par with
  | none => exact Ext.refl ..
  | some q => exact Ext.del q
theorem killPar_next (s : St) (par : Option Nat) : (killPar s par).next = s.next := by cases par <;> rfl

theorem oneCells_den (φ : Phi) : ∀ (l : List Value), oneCells l = true → oneCells (denL φ l) = true
  | [], _ => rfl
  | v :: r, h => by
    simp only [oneCells, Bool.and_eq_true] at h
    simp only [denL, oneCells, Bool.and_eq_true]
    refine ⟨?_, oneCells_den φ r h.2⟩
    cases v with
    | agg cs => simp [Value.oneCell'] at h
    | tuple cs => simp [Value.oneCell'] at h
    | pointer x => cases x <;> rfl
    | slice x l c => cases x <;> rfl
    | map x => cases x <;> rfl
    | chan x => cases x <;> rfl
    | _ => rfl

theorem writeBlk_sound (hr : Rel C φ D s.heap w) {id off : Nat} {vs : List Value} {s' : St} (h : writeBlk s id off vs = some s') (hvs : OkL D vs) (hid' : vs = [] → True) :
    s'.next = s.next ∧ ∃ w', (∀ (P : Program), (storeCells ⟨(φ id).block, (φ id).off + off, none⟩ (denL φ vs)).run P w = .ok () w') ∧ Rel C φ D s'.heap w' ∧ Ext φ D s.heap w φ D s'.heap w' := by
  unfold writeBlk at h
  split at h
  · cases h
    exact ⟨rfl, w, fun P => by simp [denL, storeCells], hr, Ext.refl ..⟩
  · split at h
    · rename_i cs e par hid
      split at h
      · rename_i cs' hw
        cases hone' : (oneCells vs && !parIs par id) with
        | false => rw [hone'] at h; cases h
        | true =>
          rw [hone'] at h
          simp only [cond_true, Option.some.injEq] at h
          subst h
          simp only [Bool.and_eq_true, Bool.not_eq_true'] at hone'
          obtain ⟨hone, hpi⟩ := hone'
          have hparid : par ≠ some id := by rintro rfl; simp [parIs] at hpi
          refine ⟨killPar_next s par, ?_⟩
          obtain ⟨ho, c, fr, sz, h1, h2, h3, h4, h5, h6⟩ := hr.blk id _ hid
          have hf := h5 (by omega)
          obtain ⟨hlen, rfl⟩ := (writeN_some _ _ _ _).1 hw
          have hrun : ∀ (P : Program), (storeCells ⟨(φ id).block, (φ id).off + off, none⟩ (denL φ vs)).run P w = .ok () (setB w (φ id).block (.cells (wr c ((φ id).off + off) (denL φ vs)) e fr)) := fun P => by
            have := run_storeCells_wr P (φ id).block ((φ id).off + off) e fr (denL φ vs) 0 c w h1 (by rw [denL_map]; simp; omega) hf (oneCells_den φ vs hone)
            simpa using this
          refine ⟨_, hrun, ?_⟩
          have hk := killPar_rel hr par
          have hke := killPar_ext (φ := φ) (D := D) (w := w) s par
          have hid2 : (killPar s par).heap.get id = some (.cells cs e 0 par) := by
            cases par with
            | none => exact hid
            | some q =>
              simp only [killPar]
              rw [T.get_del, if_neg (fun e => hparid (by rw [e])), hid]
          have hwrite := hk.write (w' := setB w (φ id).block (.cells (wr c ((φ id).off + off) (denL φ vs)) e fr)) (b' := .cells (cs.take off ++ vs ++ cs.drop (off + vs.length)) e 0 none) hid2 rfl
            (by
              intro q hq
              simp only [parOf] at hq
              subst hq
              simp [killPar, T.get_del])
            (by intro q hq; simp [parOf] at hq) (setB_size ..) (fun k hk' => setB_other hk') rfl rfl rfl ?_
          · exact ⟨hwrite.1, hke.trans hwrite.2⟩
          · refine ⟨?_, wr c ((φ id).off + off) (denL φ vs), fr, sz, setB_same (heap_lt h1), h2, ?_, ?_, fun _ => by rw [wr_size]; exact hf, h6⟩
            · rw [OkL_iff] at ho hvs ⊢
              intro x hx
              simp only [List.mem_append] at hx
              rcases hx with (hx | hx) | hx
              · exact ho x (List.mem_of_mem_take hx)
              · exact hvs x hx
              · exact ho x (List.mem_of_mem_drop hx)
            · rw [wr_size]; simp; omega
            · intro j v hj
              rw [wr_get _ _ _ _ (by rw [denL_map]; simp; omega)]
              by_cases hj1 : off ≤ j ∧ j < off + vs.length
              · rw [if_pos (by rw [denL_map]; simp; omega), getElem?_denL]
                rw [List.append_assoc, List.getElem?_append_right (by simp; omega), List.getElem?_append_left (by simp; omega)] at hj
                have : j - (cs.take off).length = (φ id).off + j - ((φ id).off + off) := by simp; omega
                rw [← this, hj]; rfl
              · rw [if_neg (by rw [denL_map]; simp; omega)]
                refine h4 j v ?_
                by_cases hj2 : j < off
                · rw [List.append_assoc, List.getElem?_append_left (by simp; omega), List.getElem?_take_of_lt hj2] at hj
                  exact hj
                · rw [List.getElem?_append_right (by simp; omega), List.getElem?_drop] at hj
                  rw [← hj]; congr 1; simp; omega
      · cases h
    · cases h

end
end Go.Eng
