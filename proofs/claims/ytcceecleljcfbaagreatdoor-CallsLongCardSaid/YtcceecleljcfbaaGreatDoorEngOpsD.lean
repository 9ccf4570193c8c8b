/- The abstract interpreter: maps. -/
import Derived.Test.YtcceecleljcfbaaGreatDoorEngOpsC
import Derived.Laws.StructEq
namespace Go.Eng
set_option linter.unusedVariables false
set_option linter.unusedSimpArgs false

section
variable {C : Cx} {P : Program} {φ : Phi} {D : Nat → Prop} {s : St} {w : World} {e : E} {a : Act}

theorem beqBytes (a b : ByteArray) : (a == b) = (a.data.toList == b.data.toList) := by
  rw [beq_toListBytes, ByteArray.toList_eq, ByteArray.toList_eq]

theorem keyEq_sound {kd : TypeDesc} {a b : Value} {r : Bool} (h : keyEq kd a b = some r) :
    Instr.sameNow kd (den φ a) (den φ b) = some r ∧ (r = true → Instr.sameBits 10000 (den φ b) (den φ a) = true) := by
  unfold keyEq at h
  split at h
  · split at h
    · rename_i k x k' y
      replace h := bool_split h; rcases h with ⟨hk, h⟩ | ⟨_, h⟩
      case inr => cases h
      cases h
      have hk' : k = k' := by simpa using hk
      subst hk'
      refine ⟨?_, ?_⟩
      · simp only [Instr.sameNow, den, if_true, Option.some.injEq]
        rw [Bool.eq_iff_iff]; simp
      · intro hr
        have : x = y := by simpa using hr
        subst this
        simp [Instr.sameBits, den]
    · cases h
  · split at h
    · cases h
      rename_i x y
      refine ⟨?_, ?_⟩
      · simp only [Instr.sameNow, den, beqBytes, eqBytes_eq]
      · intro hr
        rw [eqBytes_eq] at hr
        simp only [Instr.sameBits, den, beqBytes]
        rw [beq_iff_eq] at hr ⊢
        exact hr.symm
    · cases h
  · split at h
    · cases h
      rename_i x y
      refine ⟨by simp [Instr.sameNow, den], ?_⟩
      intro hr
      have : x = y := by simpa using hr
      subst this
      simp [Instr.sameBits, den]
    · cases h
  · cases h

theorem findE_sound {kd : TypeDesc} {k : Value} : ∀ {es : List MapEntry} {i : Nat} {r : Option (Nat × Value)}, findE kd k es i = some r →
    Instr.findNow kd (den φ k) (es.map (denE φ)) i = some (r.map fun p => (p.1, den φ p.2)) ∧
    (∀ j v, r = some (j, v) → i ≤ j ∧ ∃ en, es[j - i]? = some en ∧ v = en.val ∧ Instr.sameBits 10000 (den φ en.key) (den φ k) = true)
  | [], i, r, h => by simp only [findE, Option.some.injEq] at h; subst h; exact ⟨rfl, fun _ _ h => by cases h⟩
  | en :: es, i, r, h => by
    simp only [findE] at h
    split at h
    · rename_i hk
      cases h
      obtain ⟨h1, h2⟩ := keyEq_sound (φ := φ) hk
      refine ⟨?_, ?_⟩
      · simp only [List.map_cons, Instr.findNow, denE, h1, Option.map_some]
      · intro j v hj
        cases hj
        exact ⟨Nat.le_refl _, en, by simp, rfl, h2 rfl⟩
    · rename_i hk
      obtain ⟨h1, _⟩ := keyEq_sound (φ := φ) hk
      obtain ⟨h3, h4⟩ := findE_sound h
      refine ⟨?_, ?_⟩
      · simp only [List.map_cons, Instr.findNow, denE, h1]
        exact h3
      · intro j v hj
        obtain ⟨h5, en', h6, h7, h8⟩ := h4 j v hj
        refine ⟨by omega, en', ?_, h7, h8⟩
        rw [show j - i = (j - (i + 1)) + 1 from by omega]
        simpa using h6
    · cases h

theorem plainCells_den : ∀ {l : List Value}, plainCells l = true → denL φ l = l ∧ OkL D l
  | [], _ => ⟨rfl, trivial⟩
  | v :: r, h => by
    simp only [plainCells, Bool.and_eq_true] at h
    obtain ⟨h1, h2⟩ := plainCells_den h.2
    cases v <;> first
      | (simp only [denL, den, h1, OkL, Ok, h2]; exact ⟨trivial, trivial, trivial⟩)
      | (simp [plainCellB] at h; done)

theorem sameCells_eq : ∀ {x y : List Value}, sameCells x y = true → x = y
  | [], [], _ => rfl
  | [], _ :: _, h => by simp [sameCells] at h
  | _ :: _, [], h => by simp [sameCells] at h
  | a :: x, b :: y, h => by
    simp only [sameCells, Bool.and_eq_true] at h
    rw [sameCells_eq h.2]
    congr 1
    have h1 := h.1
    unfold sameCell at h1
    split at h1
    · simp at h1; rw [h1]
    · simp only [Bool.and_eq_true, decide_eq_true_eq] at h1; rw [h1.1, h1.2]
    · rename_i a b
      rw [eqBytes_eq, beq_iff_eq] at h1
      obtain ⟨⟨a⟩⟩ := a; obtain ⟨⟨b⟩⟩ := b
      simp only at h1; rw [h1]
    · cases h1

theorem sameBits_plain : ∀ (l : List Value) (n : Nat), plainCells l = true → (l.zip l).all (fun p => Instr.sameBits n p.1 p.2) = true
  | [], _, _ => rfl
  | v :: r, n, h => by
    simp only [plainCells, Bool.and_eq_true] at h
    simp only [List.zip_cons_cons, List.all_cons, sameBits_plain r n h.2, Bool.and_true]
    cases v <;> first
      | (simp [plainCellB] at h; done)
      | (simp [Instr.sameBits, beqBytes]; done)

theorem keyEqS_sound (hC : CxOk C P) {key : TypeId} {a b : Value} {r : Bool} (h : keyEqS C key a b = some r) :
    (Op.equal key (den φ a) (den φ b)).run P w = .ok r w ∧ (r = true → Instr.sameBits 10000 (den φ b) (den φ a) = true) := by
  unfold keyEqS at h
  split at h
  case h_2 => cases h
  rename_i xs ys
  replace h := bool_split h; rcases h with ⟨hp, h⟩ | ⟨_, h⟩
  case inr => cases h
  rw [Bool.and_eq_true] at hp
  obtain ⟨hx, hy⟩ := hp
  obtain ⟨x1, x2⟩ := plainCells_den (φ := φ) (D := fun _ => False) hx
  obtain ⟨y1, y2⟩ := plainCells_den (φ := φ) (D := fun _ => False) hy
  have okx : Ok (fun _ => False) (.agg xs) := by obtain ⟨xs⟩ := xs; simpa only [Ok, OkA] using x2
  have oky : Ok (fun _ => False) (.agg ys) := by obtain ⟨ys⟩ := ys; simpa only [Ok, OkA] using y2
  have hrun : ∀ q, eqV C 64 key (.agg xs) (.agg ys) = some q → (Op.equal key (den φ (.agg xs)) (den φ (.agg ys))).run P w = .ok q w := fun q hq =>
    eqV_sound (φ := φ) (w := w) hC 64 10000 (by omega) key _ _ q hq okx oky
  split at h
  · rename_i hq
    replace h := bool_split h; rcases h with ⟨hs, h⟩ | ⟨_, h⟩
    case inr => cases h
    cases h
    refine ⟨hrun true hq, fun _ => ?_⟩
    have hxy := sameCells_eq hs
    obtain ⟨xs⟩ := xs
    obtain ⟨ys⟩ := ys
    simp only at hxy
    subst hxy
    simp only at x1 hx
    simp only [den, denA, x1]
    show Instr.sameBits (9999 + 1) (.agg ⟨xs⟩) (.agg ⟨xs⟩) = true
    simp only [Instr.sameBits, beq_self_eq_true, Bool.true_and]
    exact sameBits_plain xs 9999 hx
  · rename_i hno
    refine ⟨hrun r h, fun hr => ?_⟩
    subst hr
    exact absurd h hno

theorem findS_sound (hC : CxOk C P) {key : TypeId} {k : Value} : ∀ {es : List MapEntry} {i : Nat} {r : Option (Nat × Value)}, findS C key k es i = some r →
    (Instr.findAsking key (den φ k) (es.map (denE φ)) i).run P w = .ok (r.map fun p => (p.1, den φ p.2)) w ∧
    (∀ j v, r = some (j, v) → i ≤ j ∧ ∃ en, es[j - i]? = some en ∧ v = en.val ∧ Instr.sameBits 10000 (den φ en.key) (den φ k) = true)
  | [], i, r, h => by simp only [findS, Option.some.injEq] at h; subst h; exact ⟨rfl, fun _ _ h => by cases h⟩
  | en :: es, i, r, h => by
    simp only [findS] at h
    split at h
    · rename_i hk
      cases h
      obtain ⟨h1, h2⟩ := keyEqS_sound (φ := φ) (w := w) hC hk
      refine ⟨?_, ?_⟩
      · simp only [List.map_cons, Instr.findAsking, denE, Sem.run_bind, h1, Result.andThen_ok, if_true, Sem.run_pure, Option.map_some]
      · intro j v hj
        cases hj
        exact ⟨Nat.le_refl _, en, by simp, rfl, h2 rfl⟩
    · rename_i hk
      obtain ⟨h1, _⟩ := keyEqS_sound (φ := φ) (w := w) hC hk
      obtain ⟨h3, h4⟩ := findS_sound hC h
      refine ⟨?_, ?_⟩
      · simp only [List.map_cons, Instr.findAsking, denE, Sem.run_bind, h1, Result.andThen_ok, Bool.false_eq_true, if_false]
        exact h3
      · intro j v hj
        obtain ⟨h5, en', h6, h7, h8⟩ := h4 j v hj
        refine ⟨by omega, en', ?_, h7, h8⟩
        rw [show j - i = (j - (i + 1)) + 1 from by omega]
        simpa using h6
    · cases h

theorem findK_entry (hC : CxOk C P) {key : TypeId} {kd : TypeDesc} {k : Value} {es : List MapEntry} {j : Nat} {v : Value} (h : findK C key kd k es = some (some (j, v))) :
    ∃ en, es[j]? = some en ∧ v = en.val ∧ Instr.sameBits 10000 (den φ en.key) (den φ k) = true := by
  unfold findK at h
  replace h := bool_split h; rcases h with ⟨_, h⟩ | ⟨_, h⟩
  · obtain ⟨_, h4⟩ := findE_sound (φ := φ) h
    obtain ⟨_, en, h6, h7, h8⟩ := h4 j v rfl
    exact ⟨en, by simpa using h6, h7, h8⟩
  · split at h
    case h_2 => cases h
    obtain ⟨_, h4⟩ := findS_sound (φ := φ) (w := default) hC h
    obtain ⟨_, en, h6, h7, h8⟩ := h4 j v rfl
    exact ⟨en, by simpa using h6, h7, h8⟩

theorem checkKey_run (hC : CxOk C P) {key : TypeId} {kd : TypeDesc} (hk : C.und key = some kd) {k : Value} (hp : chkKeyA C key kd k = true) (em : Bool) : (Instr.checkKey em 10000 key (den φ k)).run P w = .ok () w := by
  show (Instr.checkKey em (9999 + 1) key (den φ k)).run P w = _
  unfold Instr.checkKey
  rw [Sem.run_bind, run_und hC hk, Result.andThen_ok]
  unfold chkKeyA at hp
  rw [Bool.or_eq_true] at hp
  rcases hp with hp | hp
  · cases kd <;> simp [plainKeyD] at hp <;> simp
  · split at hp
    case h_2 => cases hp
    rename_i fs cs
    rw [Bool.and_eq_true, Bool.and_eq_true] at hp
    obtain ⟨_, hpl, hparts⟩ := hp
    obtain ⟨x1, x2⟩ := plainCells_den (φ := φ) (D := fun _ => False) hpl
    have e1 : den φ (.agg cs) = .agg cs := by obtain ⟨cs⟩ := cs; simp only [den, denA]; simp only at x1; rw [x1]
    rw [e1]
    simp only
    rw [← Array.forIn_toList]
    generalize fs.toList = fl at hparts
    induction fl with
    | nil => simp
    | cons f r ih =>
      simp only [keyParts, Bool.and_eq_true, Bool.not_eq_true', beq_eq_false_iff_ne] at hparts
      obtain ⟨⟨hne, hf⟩, hrest⟩ := hparts
      split at hf
      case h_2 => cases hf
      rename_i d pv hd hpv
      obtain ⟨p1, p2⟩ := part_sound (φ := φ) hC hpv x2 w
      rw [x1] at p1
      have hck : (Instr.checkKey em 9999 f.type (den φ pv)).run P w = .ok () w := by
        show (Instr.checkKey em (9998 + 1) f.type (den φ pv)).run P w = _
        unfold Instr.checkKey
        rw [Sem.run_bind, run_und hC hd, Result.andThen_ok]
        cases d <;> simp [plainKeyD] at hf <;> simp
      have ecs : cs.toList.toArray = cs := by simp
      rw [ecs] at p1
      rw [List.forIn_cons, Sem.run_bind, Sem.run_bind, if_pos hne]
      simp only [Sem.run_bind, p1, Result.andThen_ok, hck, Sem.run_pure]
      have := ih hrest
      rw [Sem.run_bind] at this
      exact this

theorem findKey_run (hC : CxOk C P) {key : TypeId} {kd : TypeDesc} (hk : C.und key = some kd) {k : Value} {es : List MapEntry} {r : Option (Nat × Value)} (h : findK C key kd k es = some r) :
    (Instr.findKey key (den φ k) (es.map (denE φ))).run P w = .ok (r.map fun p => (p.1, den φ p.2)) w := by
  unfold findK at h
  replace h := bool_split h; rcases h with ⟨_, h⟩ | ⟨hp, h⟩
  · obtain ⟨h1, _⟩ := findE_sound (φ := φ) h
    simp only [Instr.findKey, Sem.run_bind, run_und hC hk, Result.andThen_ok, h1, Sem.run_pure]
  · split at h
    case h_2 => cases h
    rename_i fs
    have h1 := (findS_sound (φ := φ) (w := w) hC h).1
    have hnow : Instr.findNow (.struct fs) (den φ k) (es.map (denE φ)) 0 = none ∨ es = [] := by
      cases es with
      | nil => exact .inr rfl
      | cons e r => left; simp [Instr.findNow, Instr.sameNow]
    rcases hnow with hnow | rfl
    · simp only [Instr.findKey, Sem.run_bind, run_und hC hk, Result.andThen_ok, hnow]
      exact h1
    · simp only [findS, Option.some.injEq] at h
      subst h
      simp [Instr.findKey, run_und hC hk, Instr.findNow]

theorem run_getObj {r : Nat} {o : Obj} (h : w.heap[r]? = some o) (hc : ∀ c e f, o ≠ .cells c e f) : (getObj r).run P w = .ok o w := by
  cases o with
  | cells c e f => exact absurd rfl (hc c e f)
  | _ => simp only [getObj, Sem.run, h]
theorem run_setObj {r : Nat} {o o' : Obj} (h : w.heap[r]? = some o) (hc : ∀ c e f, o ≠ .cells c e f) : (setObj r o').run P w = .ok () (setB w r o') := by
  cases o with
  | cells c e f => exact absurd rfl (hc c e f)
  | _ => simp only [setObj, Sem.run, h]; rfl

theorem ok_bool2 {D : Nat → Prop} {v : Value} (h : Ok D v) (b : Bool) : Ok D (.tuple #[v, .bool b]) := by
  simp only [Ok, OkA, OkL]; exact ⟨h, trivial, trivial⟩
theorem den_bool2 (φ : Phi) (v : Value) (b : Bool) : den φ (.tuple #[v, .bool b]) = .tuple #[den φ v, .bool b] := by
  simp [den, denA, denL]

theorem lookup_sound (hC : CxOk C P) (hr : Rel C φ D s.heap w) {t : TypeId} {x k v : Value} {ok : Bool} (h : lookupA C t x k ok s = some v) :
    (Instr.lookup t (den φ x) (den φ k) ok).run P w = .ok (den φ v) w ∧ Ok D v := by
  unfold lookupA at h
  split at h
  case h_2 => cases h
  rename_i key elem hu
  split at h
  case h_2 => cases h
  rename_i kd hk
  replace h := bool_split h; rcases h with ⟨hp, h⟩ | ⟨_, h⟩
  case inr => cases h
  split at h
  case h_2 => cases h
  rename_i es hes
  have hch := fun em => checkKey_run (φ := φ) (w := w) hC hk hp em
  have fin : (∀ en ∈ es, Ok D en.key ∧ Ok D en.val) →
      (Ok D v ∧ ∀ (em : Bool), ((do
        Instr.checkKey em 10000 key (den φ k)
        match ← Instr.findKey key (den φ k) (es.map (denE φ)) with
        | some (_, v) => pure (if ok = true then .tuple #[v, .bool true] else v)
        | none => do let z ← zeroValue elem; pure (if ok = true then .tuple #[z, .bool false] else z)) : Sem Value).run P w = .ok (den φ v) w) := by
    intro hok
    split at h
    · rename_i j u hf
      have hfk := findKey_run (φ := φ) (w := w) hC hk hf
      obtain ⟨en, h6, h7, _⟩ := findK_entry (φ := φ) hC hf
      have hu' : Ok D u := by rw [h7]; exact (hok en (List.mem_of_getElem? h6)).2
      cases h
      cases ok with
      | true =>
        refine ⟨ok_bool2 hu' true, fun em => ?_⟩
        simp only [Sem.run_bind, hch, Result.andThen_ok, hfk, Option.map_some, Sem.run_pure, if_true, cond_true, den_bool2]
      | false =>
        refine ⟨hu', fun em => ?_⟩
        simp only [Sem.run_bind, hch, Result.andThen_ok, hfk, Option.map_some, Sem.run_pure, Bool.false_eq_true, if_false, cond_false]
    · rename_i hf
      have hfk := findKey_run (φ := φ) (w := w) hC hk hf
      split at h
      case h_2 => cases h
      rename_i z hz
      obtain ⟨hz1, hz2⟩ := zero_of hC hz
      have hcl := closed_den φ D z hz2
      cases h
      cases ok with
      | true =>
        refine ⟨ok_bool2 hcl.2 false, fun em => ?_⟩
        simp only [Sem.run_bind, hch, Result.andThen_ok, hfk, Option.map_none, Sem.run_pure, hz1, if_true, cond_true, den_bool2, hcl.1]
      | false =>
        refine ⟨hcl.2, fun em => ?_⟩
        simp only [Sem.run_bind, hch, Result.andThen_ok, hfk, Option.map_none, Sem.run_pure, hz1, Bool.false_eq_true, if_false, cond_false, hcl.1]
    · cases h
  unfold entriesA at hes
  split at hes
  · cases hes
    obtain ⟨h1, h2⟩ := fin (fun _ h => by cases h)
    refine ⟨?_, h1⟩
    rw [← h2 true]
    unfold Instr.lookup
    simp only [Sem.run_bind, run_und hC hu, Result.andThen_ok, den, Sem.run_pure, List.map_nil]
    rfl
  · rename_i r
    split at hes
    · rename_i es' clock hb
      cases hes
      obtain ⟨ho, h1⟩ := hr.blk r _ hb
      obtain ⟨h2, h3⟩ := fin ho
      refine ⟨?_, h2⟩
      rw [← h3 (es.map (denE φ)).toArray.isEmpty]
      unfold Instr.lookup
      simp only [Sem.run_bind, run_und hC hu, Result.andThen_ok, den, Sem.run_pure, run_getObj h1 (by intro _ _ _ h; cases h)]
      rfl
    · cases hes
  · cases hes


theorem setE_den (φ : Phi) (k v : Value) : ∀ (es : List MapEntry) (i : Nat),
    ((es.map (denE φ)).toArray.modify i fun e => { e with key := den φ k, val := den φ v }) = ((setE k v es i).map (denE φ)).toArray := by
  intro es i
  apply Array.ext_getElem?
  intro j
  simp only [Array.getElem?_modify, List.getElem?_toArray, List.getElem?_map]
  have : ∀ (es : List MapEntry) (i j : Nat), (setE k v es i)[j]? = if i = j then es[j]?.map (fun e => { key := k, val := v, born := e.born }) else es[j]? := by
    intro es
    induction es with
    | nil => intro i j; cases i <;> simp [setE]
    | cons e r ih =>
      intro i j
      cases i with
      | zero => cases j <;> simp [setE]
      | succ i => cases j with
        | zero => simp [setE]
        | succ j => simp only [setE, List.getElem?_cons_succ, ih i j, Nat.add_right_cancel_iff]
  rw [this]
  split
  · cases es[j]? <;> rfl
  · rfl

theorem setE_ok {k v : Value} (hk : Ok D k) (hv : Ok D v) : ∀ {es : List MapEntry} (i : Nat), (∀ en ∈ es, Ok D en.key ∧ Ok D en.val) → ∀ en ∈ setE k v es i, Ok D en.key ∧ Ok D en.val
  | [], i, h, en, hm => by cases i <;> simp [setE] at hm
  | e :: r, 0, h, en, hm => by
    simp only [setE, List.mem_cons] at hm
    rcases hm with rfl | hm
    · exact ⟨hk, hv⟩
    · exact h en (List.mem_cons_of_mem _ hm)
  | e :: r, i + 1, h, en, hm => by
    simp only [setE, List.mem_cons] at hm
    rcases hm with rfl | hm
    · exact h en (List.mem_cons_self ..)
    · exact setE_ok hk hv i (fun en hm => h en (List.mem_cons_of_mem _ hm)) en hm

theorem delE_den (φ : Phi) (es : List MapEntry) (i : Nat) (hi : i < es.length) : (es.map (denE φ)).toArray.eraseIdxIfInBounds i = ((delE es i).map (denE φ)).toArray := by
  have : ∀ (es : List MapEntry) (i : Nat), delE es i = es.eraseIdx i := by
    intro es
    induction es with
    | nil => intro i; cases i <;> rfl
    | cons e r ih => intro i; cases i <;> simp [delE, ih]
  rw [this, Array.eraseIdxIfInBounds, dif_pos (by simpa using hi)]
  have hm : ∀ (es : List MapEntry) (i : Nat), (es.map (denE φ)).eraseIdx i = (es.eraseIdx i).map (denE φ) := by
    intro es
    induction es with
    | nil => intro i; rfl
    | cons e r ih => intro i; cases i <;> simp [ih]
  simp [hm]

theorem delE_ok : ∀ {es : List MapEntry} (i : Nat), (∀ en ∈ es, Ok D en.key ∧ Ok D en.val) → ∀ en ∈ delE es i, Ok D en.key ∧ Ok D en.val
  | [], i, h, en, hm => by cases i <;> simp [delE] at hm
  | e :: r, 0, h, en, hm => h en (List.mem_cons_of_mem _ hm)
  | e :: r, i + 1, h, en, hm => by
    simp only [delE, List.mem_cons] at hm
    rcases hm with rfl | hm
    · exact h en (List.mem_cons_self ..)
    · exact delE_ok i (fun en hm => h en (List.mem_cons_of_mem _ hm)) en hm

/-- An object that is no row turns. -/
theorem Rel.setObj (hr : Rel C φ D s.heap w) {r : Nat} {b b' : Blk} {o : Obj} (hb : s.heap.get r = some b) (hw : writable b = true) (hp : parOf b = none) (hp' : parOf b' = none)
    (hb' : BlkIs C φ D (setB w (φ r).block o) (φ r) b') :
    Rel C φ D (s.heap.set r b') (setB w (φ r).block o) ∧ Ext φ D s.heap w φ D (s.heap.set r b') (setB w (φ r).block o) :=
  hr.write hb hw (by intro q hq; rw [hp] at hq; cases hq) (by intro q hq; rw [hp'] at hq; cases hq) (setB_size ..) (fun k hk => setB_other hk) rfl rfl rfl hb'

theorem op_mapUpdate (hC : CxOk C P) (hr : Rel C φ D s.heap w) {t : TypeId} {m k v : Value} (hk : Ok D k) (hv : Ok D v) :
    OpOk C φ D s w (ostate (mapUpdateA C t m k v s)) ((do Instr.mapUpdate t (den φ m) (den φ k) (den φ v); pure .skip : Sem Next).run P w) := by
  cases hg : mapUpdateA C t m k v s with
  | none => trivial
  | some s' =>
    unfold mapUpdateA at hg
    split at hg
    case h_2 => cases hg
    rename_i key elem r hu
    split at hg
    case h_2 => cases hg
    rename_i kd es clock hkd hb
    replace hg := bool_split hg; rcases hg with ⟨hp, hg⟩ | ⟨_, hg⟩
    case inr => cases hg
    obtain ⟨ho, h1⟩ := hr.blk r _ hb
    have hlt := heap_lt h1
    have hch := fun em => checkKey_run (φ := φ) (w := w) hC hkd hp em
    split at hg
    · rename_i i u hf
      cases hg
      have hfk := findKey_run (φ := φ) (w := w) hC hkd hf
      obtain ⟨en, h6, h7, h8⟩ := findK_entry (φ := φ) hC hf
      have hset := hr.setObj (o := .map ((setE k v es i).map (denE φ)).toArray clock) hb rfl rfl rfl (b' := .map (setE k v es i) clock) ⟨setE_ok hk hv i ho, setB_same hlt⟩
      refine ⟨φ, D, _, hset.1, hset.2, .inl ⟨rfl, rfl⟩, .skip, ?_, rfl⟩
      have hkey : (Instr.keyThatStays (((((es.map (denE φ)).toArray)[i]?).map (·.key)).getD (den φ k)) (den φ k)).run P w = .ok (den φ k) w := by
        have : ((((es.map (denE φ)).toArray)[i]?).map (·.key)).getD (den φ k) = den φ en.key := by
          have h6' := h6
          simp [h6', denE]
        rw [this]
        simp only [Instr.keyThatStays]
        rw [h8]
        rfl
      unfold Instr.mapUpdate
      simp only [den, Sem.run_bind, run_und hC hu, Result.andThen_ok, run_getObj h1 (by intro _ _ _ h; cases h), hch, hfk, Option.map_some, hkey, run_setObj h1 (by intro _ _ _ h; cases h), Sem.run_pure]
      rw [setE_den]
    · rename_i hf
      cases hg
      have hfk := findKey_run (φ := φ) (w := w) hC hkd hf
      have hset := hr.setObj (o := .map ((es ++ [({ key := k, val := v, born := clock } : MapEntry)]).map (denE φ)).toArray (clock + 1)) hb rfl rfl rfl (b' := .map (es ++ [{ key := k, val := v, born := clock }]) (clock + 1))
        ⟨fun en hm => by
          rcases List.mem_append.1 hm with hm | hm
          · exact ho en hm
          · simp only [List.mem_singleton] at hm; subst hm; exact ⟨hk, hv⟩, setB_same hlt⟩
      refine ⟨φ, D, _, hset.1, hset.2, .inl ⟨rfl, rfl⟩, .skip, ?_, rfl⟩
      unfold Instr.mapUpdate
      simp only [den, Sem.run_bind, run_und hC hu, Result.andThen_ok, run_getObj h1 (by intro _ _ _ h; cases h), hch, hfk, Option.map_none, run_setObj h1 (by intro _ _ _ h; cases h), Sem.run_pure]
      simp [denE]
    · cases hg

theorem delete_sound (hC : CxOk C P) (hr : Rel C φ D s.heap w) {argTypes : Array TypeId} {type : TypeId} {args : List Value} (hok : OkL D args) :
    OpOk C φ D s w (deleteA C argTypes.toList args s) ((do pure (.value (← Builtin.delete_ argTypes type (denL φ args).toArray)) : Sem Next).run P w) := by
  generalize hg : deleteA C argTypes.toList args s = res
  unfold deleteA at hg
  split at hg
  case h_2 => subst hg; trivial
  rename_i t rest m k hat
  split at hg
  case h_2 => subst hg; trivial
  rename_i key elem hu
  split at hg
  case h_2 => subst hg; trivial
  rename_i kd hkd
  replace hg := bool_split hg; rcases hg with ⟨hp, hg⟩ | ⟨_, hg⟩
  case inr => subst hg; trivial
  have at0 : argTypes[0]? = some t := by rw [← Array.getElem?_toList, hat]; rfl
  have av0 : (denL φ [m, k]).toArray[0]? = some (den φ m) := by simp [denL]
  have av1 : (denL φ [m, k]).toArray[1]? = some (den φ k) := by simp [denL]
  have hch := fun em => checkKey_run (φ := φ) (w := w) hC hkd hp em
  unfold Builtin.delete_
  split at hg
  · subst hg
    refine .ok_value hr ?_ (ok_undef D)
    simp only [at0, av0, av1, Sem.run_bind, run_und hC hu, Result.andThen_ok, den, hch, Sem.run_pure, den_undef]
    rfl
  · rename_i r
    split at hg
    case h_2 => subst hg; trivial
    rename_i es clock hb
    obtain ⟨ho, h1⟩ := hr.blk r _ hb
    have hlt := heap_lt h1
    split at hg
    · rename_i i u hf
      subst hg
      have hfk := findKey_run (φ := φ) (w := w) hC hkd hf
      obtain ⟨en, h6, h7, h8⟩ := findK_entry (φ := φ) hC hf
      have hset := hr.setObj (o := .map ((delE es i).map (denE φ)).toArray clock) hb rfl rfl rfl (b' := .map (delE es i) clock) ⟨delE_ok i ho, setB_same hlt⟩
      refine ⟨φ, D, _, hset.1, hset.2, .inl ⟨rfl, rfl⟩, .value undef, ?_, ok_undef D, (den_undef φ).symm⟩
      simp only [at0, av0, av1, Sem.run_bind, run_und hC hu, Result.andThen_ok, den, run_getObj h1 (by intro _ _ _ h; cases h), hch, hfk, Option.map_some, run_setObj h1 (by intro _ _ _ h; cases h), Sem.run_pure]
      rw [delE_den φ es i (List.getElem?_eq_some_iff.1 h6).1]
      rfl
    · rename_i hf
      subst hg
      have hfk := findKey_run (φ := φ) (w := w) hC hkd hf
      refine .ok_value hr ?_ (ok_undef D)
      simp only [at0, av0, av1, Sem.run_bind, run_und hC hu, Result.andThen_ok, den, run_getObj h1 (by intro _ _ _ h; cases h), hch, hfk, Option.map_none, run_setObj h1 (by intro _ _ _ h; cases h), Sem.run_pure, den_undef, setB_self h1]
      rfl
    · subst hg; trivial
  · subst hg; trivial

end
end Go.Eng
