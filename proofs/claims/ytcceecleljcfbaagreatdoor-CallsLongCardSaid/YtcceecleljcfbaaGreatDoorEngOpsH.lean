/- The abstract interpreter: an operation. -/
import Derived.Test.YtcceecleljcfbaaGreatDoorEngOpsG
namespace Go.Eng
set_option linter.unusedVariables false
set_option linter.unusedSimpArgs false

section
variable {C : Cx} {P : Program} {φ : Phi} {D : Nat → Prop} {s : St} {w : World} {e : E} {a : Act}

theorem op_makeMap (hr : Rel C φ D s.heap w) (hn : ¬ D s.next) {run : Result Next} (h : run = .ok (.value (.map (some w.heap.size))) { w with heap := w.heap.push (.map #[] 0) }) :
    OpOk C φ D s w (.ok (.value (.map (some s.next))) (s.new (.map [] 0))) run := by
  obtain ⟨h1, h2⟩ := hr.new (w' := { w with heap := w.heap.push (.map #[] 0) }) (b := .map [] 0) (off := 0) (sl := 0) hn rfl rfl rfl rfl ⟨fun _ h => (by cases h), by simp⟩
  refine ⟨_, _, _, h1, h2, .inr ⟨rfl, rfl⟩, _, h, ?_, ?_⟩
  · simp only [Ok]; exact .inr rfl
  · simp [den, updPhi]

theorem op_makeChan (hC : CxOk C P) (hr : Rel C φ D s.heap w) (hn : ¬ D s.next) {t : TypeId} {x : Value} :
    OpOk C φ D s w (makeChanA C t x s) ((do pure (.value (← Instr.makeChan t (den φ x))) : Sem Next).run P w) := by
  generalize hg : makeChanA C t x s = res
  unfold makeChanA at hg
  split at hg
  case h_2 => subst hg; trivial
  rename_i dir elem k n hu
  split at hg
  case h_2 => subst hg; trivial
  rename_i ei hei
  replace hg := bool_split hg; rcases hg with ⟨hc, hg⟩ | ⟨_, hg⟩
  case inr => subst hg; trivial
  simp only [Bool.and_eq_true, ble_iff] at hc
  obtain ⟨hb, hcb⟩ := hc
  subst hg
  obtain ⟨h1, h2⟩ := hr.new (w' := { w with heap := w.heap.push (.chan n #[] false 0 0 false) }) (b := .chan n [] 0 0) (off := 0) (sl := 0) hn rfl rfl rfl rfl ⟨by simp [OkL], by simp [denL]⟩
  refine ⟨_, _, _, h1, h2, .inr ⟨rfl, rfl⟩, .value (.chan (some w.heap.size)), ?_, ?_, ?_⟩
  · have hbi : ((ei.bytes : Int) * (n : Int)) ≤ 1099511627776 := by
      have : ((ei.bytes * n : Nat) : Int) ≤ 1099511627776 := by omega
      simpa using this
    have hmax : IntKind.i64.max = 9223372036854775807 := rfl
    have hcond : ¬ ((n : Int) < 0 ∨ (n : Int) > IntKind.i64.max ∨ (ei.bytes : Int) * (n : Int) > 2 ^ 48 - 112) := by
      rw [hmax]; omega
    simp only [Instr.makeChan, den, asInt, asIntOf, Sem.run_bind, Sem.run_pure, Result.andThen_ok, run_und hC hu, run_info hC hei, Int.ofNat_eq_natCast]
    rw [if_neg hcond]
    simp
  · simp only [Ok]; exact .inr rfl
  · simp [den, updPhi]

noncomputable def opA' (C : Cx) (e : E) (o : Oper) (s : St) : R ANext :=
  match o.op with
  | .move x | .assign x => ovalue (e.eval C x) s
  | .pick c a b => match e.eval C c with
    | some (.bool true) => ovalue (e.eval C a) s
    | some (.bool false) => ovalue (e.eval C b) s
    | _ => .fail
  | .alloc t => match C.zero t with
    | some z => .ok (.value (.pointer (some ⟨s.next, 0, none⟩))) (s.new (.cells (cellsOf' z) t 0 none))
    | none => .fail
  | .box t x => match e.eval C x, C.size t with
    | some v, some _ => .ok (.value (.pointer (some ⟨s.next, 0, none⟩))) (s.new (.cells (cellsOf' v) t 0 none))
    | _, _ => .fail
  | .build t parts => match partsA C e parts.toList with
    | some ps => ovalue (buildA C t ps) s
    | none => .fail
  | .buildSlice t len parts => match partsA C e parts.toList with
    | some ps => buildSliceA C t len ps s
    | none => .fail
  | .load t a => match e.eval C a with
    | some p => ovalue (loadA C t p s) s
    | none => .fail
  | .store t a x => match e.eval C a, e.eval C x with
    | some p, some v => ostate (storeA C t p v s)
    | _, _ => .fail
  | .nilCheck x => match e.eval C x with
    | some (.pointer none) | some .nilIface | some .nilFunc => .panic (nilDerefV C) s
    | some (.func (.method _) _ _) => .fail
    | some v => .ok (.value v) s
    | none => .fail
  | .binOp op t x y _ => match e.eval C x, e.eval C y with
    | some a, some b => ovalue (binA C op t (isCst x || isCst y) a b) s
    | _, _ => .fail
  | .unOp op _ x => match e.eval C x with
    | some a => ovalue (unA op a) s
    | none => .fail
  | .convert src dst x => match e.eval C x with
    | some a => convA C src dst a s
    | none => .fail
  | .makeInterface t x => match e.eval C x, C.und t with
    | some _, some (.interface _) => .fail
    | some a, some _ => .ok (.value (.iface t a)) s
    | _, _ => .fail
  | .makeFunc fn first captured => match evals C e first.toList, evals C e captured.toList with
    | some f, some c => bif isYield fn then .fail else .ok (.value (.func fn ⟨f⟩ ⟨c⟩)) s
    | _, _ => .fail
  | .makeMap t r => match r with
    | none => .ok (.value (.map (some s.next))) (s.new (.map [] 0))
    | some x => match e.eval C x, C.und t with
      | some (.int _ _), some (.map _ _) => .ok (.value (.map (some s.next))) (s.new (.map [] 0))
      | _, _ => .fail
  | .makeChan t x => match e.eval C x with
    | some x => makeChanA C t x s
    | none => .fail
  | .makeSlice t l c => match e.eval C l, e.eval C c with
    | some l, some c => makeSliceA C t l c s
    | _, _ => .fail
  | .slice t x lo hi mx => match e.eval C x, oev C e lo, oev C e hi, oev C e mx with
    | some x, some lo, some hi, some mx => ovalue (sliceA C t x lo hi mx) s
    | _, _, _, _ => .fail
  | .fieldAddr t x f => match e.eval C x with
    | some x => ovalue (fieldAddrA C t x f) s
    | none => .fail
  | .field t x f => match e.eval C x with
    | some x => ovalue (fieldA C t x f) s
    | none => .fail
  | .indexAddr t x i => match e.eval C x, e.eval C i with
    | some x, some i => ovalue (indexAddrA C t x i) s
    | _, _ => .fail
  | .index t x i => match e.eval C x, e.eval C i with
    | some x, some i => ovalue (indexA C t x i) s
    | _, _ => .fail
  | .lookup t x k ok => match e.eval C x, e.eval C k with
    | some x, some k => ovalue (lookupA C t x k ok s) s
    | _, _ => .fail
  | .mapUpdate t m k x | .insert t m k x => match e.eval C m, e.eval C k, e.eval C x with
    | some m, some k, some x => ostate (mapUpdateA C t m k x s)
    | _, _, _ => .fail
  | .range t x => match e.eval C x with
    | some x => rangeA C t x s
    | none => .fail
  | .entry it => match e.eval C it with
    | some it => ovalue (entryA it s) s
    | none => .fail
  | .next it isS => match e.eval C it with
    | some it => nextA it isS s
    | none => .fail
  | .typeAssert x _ asserted ok => match e.eval C x with
    | some x => ovalue (typeAssertA C x asserted ok) s
    | none => .fail
  | .extract t i => match e.eval C t with
    | some (.tuple vs) => ovalue (nth vs.toList i) s
    | _ => .fail
  | .call c => match resolveA C e c o.type with
    | some d => invokeA C d.target d.args.toList s
    | none => .fail
  | .defer c => match resolveA C e c o.type with
    | some d => .ok (.defer d) s
    | none => .fail
  | .panic x => match e.eval C x with
    | some x => panicA x s
    | none => .fail
  | _ => .fail

theorem opA_eq (C : Cx) (e : E) (o : Oper) (s : St) : opA C e o s = opA' C e o s := by
  unfold opA opA'
  generalize o.op = q
  cases q <;> rfl

theorem opA_sound (hC : CxOk C P) (hr : Rel C φ D s.heap w) (he : ERel φ D e a) (hn : ¬ D s.next) (o : Oper) : OpOk C φ D s w (opA C e o s) ((execOp a.eval o).run P w) := by
  have ev := fun {x : Operand} {v : Value} (h : e.eval C x = some v) => eval_sound hC hr he h
  rw [opA_eq]
  unfold opA' execOp
  split
  · -- move
    rename_i x h
    simp only [h]
    exact op_move hC hr he x
  · rename_i x h
    simp only [h]
    exact op_move hC hr he x
  · -- pick
    rename_i c x y h
    simp only [h]
    split
    · rename_i hc
      have := (ev hc).1
      refine .value hr fun v hv => ?_
      have h2 := ev hv
      simp only [this, den, asBool, Sem.run_bind, Sem.run_pure, Result.andThen_ok, if_true, h2.1]
      exact ⟨trivial, h2.2⟩
    · rename_i hc
      have := (ev hc).1
      refine .value hr fun v hv => ?_
      have h2 := ev hv
      simp only [this, den, asBool, Sem.run_bind, Sem.run_pure, Result.andThen_ok, Bool.false_eq_true, if_false, h2.1]
      exact ⟨trivial, h2.2⟩
    · trivial
  · -- alloc
    rename_i t h
    simp only [h]
    split
    · exact op_alloc hC hr hn (by assumption)
    · trivial
  · -- box
    rename_i t x h
    simp only [h]
    split
    · exact op_box hC hr he hn (by assumption) (by assumption)
    · trivial
  · -- build
    rename_i t parts h
    simp only [h]
    split
    · exact op_build hC hr he (by assumption)
    · trivial
  · -- buildSlice
    rename_i t len parts h
    simp only [h]
    split
    · exact op_buildSlice hC hr he hn (by assumption)
    · trivial
  · -- load
    rename_i t x h
    simp only [h]
    split
    · exact op_load hC hr he (by assumption)
    · trivial
  · -- store
    rename_i t x y h
    simp only [h]
    split
    · exact op_store hC hr he (by assumption) (by assumption)
    · trivial
  · -- nilCheck
    rename_i x h
    simp only [h]
    split
    · rename_i hx; simp only [(ev hx).1, den]; exact OpOk.nilDeref hC hr (nil_deref_run hC)
    · rename_i hx; simp only [(ev hx).1, den]; exact OpOk.nilDeref hC hr (nil_deref_run hC)
    · rename_i hx; simp only [(ev hx).1, den]; exact OpOk.nilDeref hC hr (nil_deref_run hC)
    · trivial
    · rename_i v h1 h2 h3 h4 hx
      have hv := ev hx
      refine .ok_value hr ?_ hv.2
      rw [hv.1]
      cases v with
      | pointer q => cases q with
        | none => exact (h1 rfl).elim
        | some q => simp [den]
      | nilIface => exact (h2 rfl).elim
      | nilFunc => exact (h3 rfl).elim
      | func fn f c => cases fn with
        | method n => exact (h4 _ _ _ rfl).elim
        | _ => simp [den, denFn]
      | slice q l c => cases q <;> simp [den]
      | map q => cases q <;> simp [den]
      | chan q => cases q <;> simp [den]
      | _ => simp [den]
    · trivial
  · -- binOp
    rename_i op t x y u h
    simp only [h]
    split
    · rename_i p q hp hq
      refine .value hr fun v hv => ?_
      have h1 := ev hp
      have h2 := ev hq
      have := binA_sound (P := P) (φ := φ) (D := D) (w := w) hC hv h1.2 h2.2
      simp only [h1.1, h2.1, Sem.run_bind] at this ⊢
      rw [this.1]
      exact ⟨rfl, this.2⟩
    · trivial
  · -- unOp
    rename_i op t x h
    simp only [h]
    split
    · rename_i p hp
      refine .value hr fun v hv => ?_
      have h1 := ev hp
      have := unA_sound (P := P) (φ := φ) (D := D) (w := w) hv
      simp only [h1.1, Sem.run_bind, this.1, Result.andThen_ok, Sem.run_pure]
      exact ⟨trivial, this.2⟩
    · trivial
  · -- convert
    rename_i src dst x h
    simp only [h]
    split
    · rename_i p hp
      have h1 := ev hp
      rw [h1.1]
      exact op_conv hC hr hn h1.2
    · trivial
  · -- makeInterface
    rename_i t x h
    simp only [h]
    split
    · trivial
    · rename_i p d hno hp hd
      have h1 := ev hp
      refine .ok_value hr ?_ (by simp only [Ok]; exact h1.2)
      rw [h1.1]
      simp only [Instr.makeInterface, Sem.run_bind, run_und hC hd, Result.andThen_ok, den]
      cases d <;> first
        | exact (hno _ rfl).elim
        | simp
    · trivial
  · -- makeFunc
    rename_i fn first cap h
    simp only [h]
    split
    · rename_i f c hf hcp
      obtain ⟨h1, h2⟩ := evals_sound hC hr he hf
      obtain ⟨h3, h4⟩ := evals_sound hC hr he hcp
      have e1 : first.map a.eval = (denL φ f).toArray := by apply Array.toList_inj.1; rw [Array.toList_map, h1]
      have e2 : cap.map a.eval = (denL φ c).toArray := by apply Array.toList_inj.1; rw [Array.toList_map, h3]
      cases fn <;> simp only [isYield, cond_false, cond_true] <;> first
        | trivial
        | (refine .ok_value hr ?_ (by simp only [Ok, okFn, OkA]; exact ⟨trivial, h2, h4⟩)
           simp [Instr.makeFunc, e1, e2, den, denFn, denA])
    · trivial
  · -- makeMap
    rename_i t r h
    simp only [h]
    split
    · exact op_makeMap hr hn (by simp [Instr.makeMap])
    · rename_i x
      split
      · rename_i k n ke el hx hu
        have h1 := ev hx
        exact op_makeMap hr hn (by simp [Instr.makeMap, run_und hC hu, h1.1, den, asInt, asIntOf])
      · trivial
  · -- makeChan
    rename_i t x h
    simp only [h]
    split
    · rename_i p hp
      have h1 := ev hp
      rw [h1.1]
      exact op_makeChan hC hr hn
    · trivial
  · -- makeSlice
    rename_i t l c h
    simp only [h]
    split
    · rename_i p q hp hq
      have h1 := ev hp
      have h2 := ev hq
      rw [h1.1, h2.1]
      exact op_makeSlice hC hr hn
    · trivial
  · -- slice
    rename_i t x lo hi mx h
    simp only [h]
    split
    · rename_i p lo' hi' mx' hp hlo hhi hmx
      have h1 := ev hp
      have h2 := oev_sound hC hr he hlo
      have h3 := oev_sound hC hr he hhi
      have h4 := oev_sound hC hr he hmx
      refine .value hr fun v hv => ?_
      have := slice_sound (P := P) (φ := φ) (w := w) hC hv h1.2
      simp only [h1.1, h2.1, h3.1, h4.1, Sem.run_bind, this.1, Result.andThen_ok, Sem.run_pure]
      exact ⟨trivial, this.2⟩
    · trivial
  · -- fieldAddr
    rename_i t x f h
    simp only [h]
    split
    · rename_i p hp
      have h1 := ev hp
      refine .value hr fun v hv => ?_
      have := fieldAddr_sound (P := P) (φ := φ) (w := w) hC hv h1.2
      simp only [h1.1, Sem.run_bind, this.1, Result.andThen_ok, Sem.run_pure]
      exact ⟨trivial, this.2⟩
    · trivial
  · -- field
    rename_i t x f h
    simp only [h]
    split
    · rename_i p hp
      have h1 := ev hp
      refine .value hr fun v hv => ?_
      have := field_sound (P := P) (φ := φ) (w := w) hC hv h1.2
      simp only [h1.1, Sem.run_bind, this.1, Result.andThen_ok, Sem.run_pure]
      exact ⟨trivial, this.2⟩
    · trivial
  · -- indexAddr
    rename_i t x i h
    simp only [h]
    split
    · rename_i p q hp hq
      have h1 := ev hp
      have h2 := ev hq
      refine .value hr fun v hv => ?_
      have := indexAddr_sound (P := P) (φ := φ) (w := w) hC hv h1.2
      simp only [h1.1, h2.1, Sem.run_bind, this.1, Result.andThen_ok, Sem.run_pure]
      exact ⟨trivial, this.2⟩
    · trivial
  · -- index
    rename_i t x i h
    simp only [h]
    split
    · rename_i p q hp hq
      have h1 := ev hp
      have h2 := ev hq
      refine .value hr fun v hv => ?_
      have := index_sound (P := P) (φ := φ) (w := w) hC hv h1.2
      simp only [h1.1, h2.1, Sem.run_bind, this.1, Result.andThen_ok, Sem.run_pure]
      exact ⟨trivial, this.2⟩
    · trivial
  · -- lookup
    rename_i t x k ok h
    simp only [h]
    split
    · rename_i p q hp hq
      have h1 := ev hp
      have h2 := ev hq
      refine .value hr fun v hv => ?_
      have := lookup_sound (P := P) (φ := φ) (w := w) hC hr hv
      simp only [h1.1, h2.1, Sem.run_bind, this.1, Result.andThen_ok, Sem.run_pure]
      exact ⟨trivial, this.2⟩
    · trivial
  · -- mapUpdate
    rename_i t m k x h
    simp only [h]
    split
    · rename_i p q r hp hq hr'
      have h1 := ev hp
      have h2 := ev hq
      have h3 := ev hr'
      rw [h1.1, h2.1, h3.1]
      exact op_mapUpdate hC hr h2.2 h3.2
    · trivial
  · -- insert
    rename_i t m k x h
    simp only [h]
    split
    · rename_i p q r hp hq hr'
      have h1 := ev hp
      have h2 := ev hq
      have h3 := ev hr'
      rw [h1.1, h2.1, h3.1]
      exact op_mapUpdate hC hr h2.2 h3.2
    · trivial
  · -- range
    rename_i t x h
    simp only [h]
    split
    · rename_i p hp
      have h1 := ev hp
      rw [h1.1]
      exact op_range hC hr hn
    · trivial
  · -- entry
    rename_i it h
    simp only [h]
    split
    · rename_i p hp
      have h1 := ev hp
      refine .value hr fun v hv => ?_
      obtain ⟨e1, e2⟩ := entry_sound (P := P) hr hv
      exact ⟨by simp only [Sem.run_bind, h1.1, e1, Result.andThen_ok, Sem.run_pure], e2⟩
    · trivial
  · -- next
    rename_i it isS h
    simp only [h]
    split
    · rename_i p hp
      have h1 := ev hp
      rw [h1.1]
      exact op_next hC hr
    · trivial
  · -- typeAssert
    rename_i x t asserted ok h
    simp only [h]
    split
    · rename_i p hp
      have h1 := ev hp
      refine .value hr fun v hv => ?_
      have := typeAssert_sound (P := P) (φ := φ) (w := w) (xType := t) hC hv h1.2
      simp only [h1.1, Sem.run_bind, this.1, Result.andThen_ok, Sem.run_pure]
      exact ⟨trivial, this.2⟩
    · trivial
  · -- extract
    rename_i t i h
    simp only [h]
    split
    · rename_i vs hp
      have h1 := ev hp
      refine .value hr fun v hv => ?_
      rw [nth_eq] at hv
      have hk := h1.2
      simp only [Ok, OkA_iff] at hk
      refine ⟨?_, hk v (List.mem_of_getElem? hv)⟩
      have : (denA φ vs)[i]? = some (den φ v) := by rw [denA_list]; simp only [List.getElem?_toArray, getElem?_denL, hv]; rfl
      simp only [h1.1, den, Instr.extract, this]
      rfl
    · trivial
  · -- call
    rename_i c h
    simp only [h]
    split
    · rename_i d hd
      obtain ⟨h1, h2⟩ := resolve_sound hC hr he hd
      simp only [Sem.run_bind, h1, Result.andThen_ok]
      exact invoke_sound hC hr hn h2
    · trivial
  · -- defer
    rename_i c h
    simp only [h]
    split
    · rename_i d hd
      obtain ⟨h1, h2⟩ := resolve_sound hC hr he hd
      exact After.same hr ⟨.defer (denD φ d), by simp [h1], h2, rfl⟩
    · trivial
  · -- panic
    rename_i x h
    simp only [h]
    split
    · rename_i p hp
      have h1 := ev hp
      rw [h1.1]
      exact panicA_sound hr h1.2
    · trivial
  · trivial

end
end Go.Eng
