/- The abstract interpreter: every operation answers as the machine's does. -/
import Derived.Test.YtcceecleljcfbaaGreatDoorEngOpsF
namespace Go.Eng
set_option linter.unusedVariables false
set_option linter.unusedSimpArgs false

section
variable {C : Cx} {P : Program} {φ : Phi} {D : Nat → Prop} {s : St} {w : World} {e : E} {a : Act}

theorem denD_args (φ : Phi) (d : Deferred) : (denD φ d).args = (denL φ d.args.toList).toArray := by simp [denD, denA_list]

theorem isCst_eq : (fun x : Operand => match x with | .const _ => true | _ => false) = isCst := by
  funext x; cases x <;> rfl

theorem resolve_sound (hC : CxOk C P) (hr : Rel C φ D s.heap w) (he : ERel φ D e a) {c : Call} {t : TypeId} {d : Deferred} (h : resolveA C e c t = some d) :
    (resolve a.eval c t).run P w = .ok (denD φ d) w ∧ OkD D d := by
  unfold resolveA at h
  split at h
  case h_2 => cases h
  rename_i args ha
  obtain ⟨h1, h2⟩ := evals_sound hC hr he ha
  have hargs : c.args.map a.eval = (denL φ args).toArray := by
    apply Array.toList_inj.1; rw [Array.toList_map, h1]
  unfold resolve
  split at h
  · rename_i b hb
    cases h
    simp only [hb, hargs, Sem.run_pure, denD, denTarget, denA]
    refine ⟨?_, trivial, h2⟩
    congr 3
  · rename_i r name hb
    split at h
    case h_2 => cases h
    rename_i v hv
    cases h
    have hv' := eval_sound hC hr he hv
    simp only [hb, hargs, Sem.run_pure, denD, denTarget, denA, denFn, denL, hv'.1]
    refine ⟨?_, ⟨trivial, trivial⟩, hv'.2, h2⟩
    congr 2
    simp
  · rename_i f hb
    split at h
    case h_2 => cases h
    rename_i v hv
    have hv' := eval_sound hC hr he hv
    unfold ofValueA at h
    split at h
    · rename_i fn first cap
      cases h
      have hk := hv'.2
      simp only [Ok] at hk
      simp only [hb, hargs, hv'.1, den, Deferred.ofValue, Sem.run_pure, denD, denTarget, denA]
      refine ⟨?_, ⟨hk.1, hk.2.2⟩, ?_⟩
      · congr 2
        rw [denA_list, denL_map, denL_map, denL_map]
        simp
      · simp only [OkA]
        rw [OkA_iff] at hk
        rw [OkL_iff] at h2 ⊢
        intro x hx
        rcases List.mem_append.1 hx with hx | hx
        · exact hk.2.1 x hx
        · exact h2 x hx
    · cases h
      simp only [hb, hargs, hv'.1, den, Deferred.ofValue, Sem.run_pure, denD, denTarget, denA]
      exact ⟨trivial, trivial, h2⟩
    · cases h

theorem panicA_sound (hr : Rel C φ D s.heap w) {x : Value} (hx : Ok D x) : OpOk C φ D s w (panicA x s) ((do pure (.value (← Instr.panic (den φ x))) : Sem Next).run P w) := by
  unfold panicA
  split
  · rename_i t v
    refine After.same hr ⟨?_, hx⟩
    simp [den, Instr.panic]
  · trivial

theorem okL_args {d : Deferred} (h : OkD D d) : OkL D d.args.toList := by
  have := h.2
  rw [OkA_iff] at this
  rw [OkL_iff]; exact this

theorem cap_sound (hC : CxOk C P) {argTypes : Array TypeId} {type : TypeId} {args : List Value} {v : Value} (h : capA C argTypes.toList args = some v) :
    (Builtin.cap_ argTypes type (denL φ args).toArray).run P w = .ok (den φ v) w ∧ Ok D v := by
  unfold capA at h
  split at h
  case h_2 => cases h
  rename_i t rt x rx hat
  have at0 : argTypes[0]? = some t := by rw [← Array.getElem?_toList, hat]; rfl
  have av0 : (denL φ (x :: rx)).toArray[0]? = some (den φ x) := by simp [denL]
  unfold Builtin.cap_
  simp only [at0, av0, Sem.run_bind]
  split at h
  · rename_i n el hu
    cases h
    simp only [run_und hC hu, Result.andThen_ok, den, Sem.run_pure, goInt, Ok]; exact ⟨trivial, trivial⟩
  · rename_i el n cap hu
    cases h
    simp only [run_und hC hu, Result.andThen_ok, den, Sem.run_pure, goInt, Ok]; exact ⟨trivial, trivial⟩
  · rename_i el ad n cap hu
    cases ho : opn cap with
    | true => rw [ho] at h; cases h
    | false =>
      rw [ho] at h
      simp only [cond_false, Option.some.injEq] at h
      subst h
      have hr : cap / 2 + cap % 2 * (φ ad.block).slack = capOf cap := by
        unfold opn at ho
        have : cap % 2 ≠ 1 := by intro e; rw [e] at ho; simp at ho
        have : cap % 2 = 0 := by omega
        rw [this]; simp [capOf]
      simp only [run_und hC hu, Result.andThen_ok, den, hr, Sem.run_pure, goInt, Ok]; exact ⟨trivial, trivial⟩
  · cases h

theorem sliceData_sound {argTypes : Array TypeId} {type : TypeId} {args : List Value} {v : Value} (hok : OkL D args) (h : sliceDataA args = some v) :
    (Builtin.unsafeSliceData_ argTypes type (denL φ args).toArray).run P w = .ok (den φ v) w ∧ Ok D v := by
  unfold sliceDataA at h
  split at h
  · cases h
    exact ⟨rfl, by simp [Ok]⟩
  · rename_i b o l c
    split at h
    case h_2 => cases h
    rename_i k hk
    cases h
    have ha := hok.1
    simp only [Ok] at ha ⊢
    refine ⟨?_, ha⟩
    have : (denL φ [.slice (some ⟨b, o, none⟩) l c]).toArray = #[.slice (some ⟨(φ b).block, (φ b).off + o, none⟩) l (c / 2 + c % 2 * (φ b).slack)] := by simp [denL, den]
    rw [this]
    simp only [den]
    refine Lib.run_unsafeSliceData_row (P := P) w argTypes type _ l _ ?_
    unfold capOf at hk
    omega
  · cases h

theorem run_loadBytesL : ∀ (ns : List Int) (b o : Nat) (acc : ByteArray), (∀ j n, ns[j]? = some n → w.cell? ⟨b, o + j, none⟩ = some (.int .u8 n)) →
    (loadBytes ⟨b, o, none⟩ acc ns.length).run P w = .ok ⟨⟨acc.data.toList ++ ns.map fun n => UInt8.ofNat n.toNat⟩⟩ w
  | [], b, o, acc, _ => by simp [loadBytes]
  | n :: r, b, o, acc, h => by
    have h0 := h 0 n rfl
    simp only [List.length_cons, loadBytes, Sem.run_bind, run_load]
    simp only [Nat.add_zero] at h0
    simp only [h0, Result.andThen_ok, addr_add]
    rw [run_loadBytesL r b (o + 1) _ (fun j m hj => by rw [show o + 1 + j = o + (j + 1) from by omega]; exact h (j + 1) m (by simpa using hj))]
    simp [ByteArray.push]

theorem freeze_any {w : World} {b o n : Nat} {c : Array Value} {elem : TypeId} {fr : Nat × Nat} (h : w.heap[b]? = some (.cells c elem fr)) (hn : n ≠ 0) :
    ∃ fr', w.freeze ⟨b, o, none⟩ n = setB w b (.cells c elem fr') := by
  obtain ⟨lo, hi⟩ := fr
  refine ⟨if lo == hi then (o, o + n) else (min lo o, max hi (o + n)), ?_⟩
  unfold World.freeze
  simp only [hn, if_false]
  refine world_ext ?_ rfl rfl rfl rfl
  apply Array.ext_getElem?
  intro k
  by_cases hk : k = b
  · subst hk
    rw [setB_same (heap_lt h)]
    simp [Array.getElem?_modify, h]
  · rw [setB_other hk]
    simp only [Array.getElem?_modify]
    rw [if_neg (by omega)]

theorem unsafeString_sound (hC : CxOk C P) (hr : Rel C φ D s.heap w) {argTypes : Array TypeId} {type : TypeId} {args : List Value} :
    OpOk C φ D s w (unsafeStringA C argTypes.toList args s) ((do pure (.value (← Builtin.unsafeString_ argTypes type (denL φ args).toArray)) : Sem Next).run P w) := by
  generalize hg : unsafeStringA C argTypes.toList args s = res
  unfold unsafeStringA at hg
  split at hg
  case h_2 => subst hg; trivial
  rename_i pt it p n hat
  have hat' : argTypes = #[pt, it] := by apply Array.ext'; simpa using hat
  subst hat'
  split at hg
  · subst hg
    refine .ok_value hr ?_ (by simp [Ok])
    have : ∃ q, (denL φ [.pointer p, .int .i64 (Int.ofNat 0)]).toArray = #[.pointer q, .int .i64 0] := by
      cases p <;> exact ⟨_, rfl⟩
    obtain ⟨q, hq⟩ := this
    rw [hq]
    simp only [Sem.run_bind, Lib.run_unsafeString_none (P := P) w pt it type q, Result.andThen_ok, Sem.run_pure, den]
    rfl
  · rename_i n
    split at hg
    case h_2 => subst hg; trivial
    rename_i b o elem hu
    split at hg
    case h_2 => subst hg; trivial
    rename_i vs e par hsz hb
    replace hg := bool_split hg; rcases hg with ⟨hc, hg⟩ | ⟨_, hg⟩
    case inr => subst hg; trivial
    simp only [Bool.and_eq_true, beq_iff, ble_iff, Bool.not_eq_true'] at hc
    obtain ⟨⟨he, hle⟩, hpi⟩ := hc
    subst he
    split at hg
    case h_2 => subst hg; trivial
    rename_i l hl
    split at hg
    case h_2 => subst hg; trivial
    rename_i bs hbs
    subst hg
    have hparid : par ≠ some b := by rintro rfl; simp [parIs] at hpi
    obtain ⟨ho, c, fr, sz, h1, h2, h3, h4, h5, h6⟩ := hr.blk b _ hb
    obtain ⟨i, hi, hin⟩ := info_size hC hsz
    obtain ⟨ns, rfl, rfl⟩ := bytesOf_cells hbs
    rw [dropN_eq] at hl
    obtain ⟨hlen, hl'⟩ := (takeN_some _ _ _).1 hl
    have hnl : ns.length = n + 1 := by
      have := congrArg List.length hl'
      rw [List.length_map, List.length_take, Nat.min_eq_left hlen] at this
      exact this
    rw [List.length_drop] at hlen
    have hcells : P.cellsOf e = 1 := by simp [Program.cellsOf, hi, hin]
    have hlies : liesAt P P.depth e (c.size / P.cellsOf e) ((φ b).off + o) e (n + 1) = true := by
      rw [hcells]
      exact lies_row hcells (by omega) (Nat.mod_one _) (by simp; omega)
    have hload := run_loadBytesL (P := P) (w := w) ns (φ b).block ((φ b).off + o) ByteArray.empty (fun j m hj => by
      rw [cell_of h1]
      have hj' : (ns.map (Value.int .u8))[j]? = some (.int .u8 m) := by simp [hj]
      have hjl := (List.getElem?_eq_some_iff.1 hj).1
      rw [hl', List.getElem?_take_of_lt (by omega), List.getElem?_drop] at hj'
      have := h4 _ _ hj'
      rw [Nat.add_assoc, this]
      simp [den])
    rw [hnl] at hload
    obtain ⟨fr', hfz⟩ := freeze_any (o := (φ b).off + o) (n := n + 1) h1 (by omega)
    have hk := killPar_rel hr par
    have hke := killPar_ext (φ := φ) (D := D) (w := w) s par
    have hb2 : (killPar s par).heap.get b = some (.cells vs e 0 par) := by
      cases par with
      | none => exact hb
      | some q =>
        simp only [killPar]
        rw [T.get_del, if_neg (fun e => hparid (by rw [e])), hb]
    have hwrite := hk.write (w' := setB w (φ b).block (.cells c e fr')) (b' := .cells vs e 2 none) hb2 rfl
      (by
        intro q hq
        simp only [parOf] at hq
        subst hq
        simp [killPar, T.get_del])
      (by intro q hq; simp [parOf] at hq) (setB_size ..) (fun k hk' => setB_other hk') rfl rfl rfl
      ⟨ho, c, fr', sz, setB_same (heap_lt h1), h2, h3, h4, fun h => absurd h (by omega), h6⟩
    refine ⟨φ, D, _, hwrite.1, hke.trans hwrite.2, .inl ⟨rfl, rfl⟩, .value (.string ⟨⟨ns.map fun n => UInt8.ofNat n.toNat⟩⟩), ?_, by simp [Ok], by simp [den]⟩
    have hargs : (denL φ [.pointer (some ⟨b, o, none⟩), .int .i64 (Int.ofNat (n + 1))]).toArray = #[.pointer (some ⟨(φ b).block, (φ b).off + o, none⟩), .int .i64 ((n + 1 : Nat) : Int)] := by simp [denL, den]
    rw [hargs]
    have hdef : Builtin.unsafeString_ #[pt, it] type #[.pointer (some ⟨(φ b).block, (φ b).off + o, none⟩), .int .i64 ((n + 1 : Nat) : Int)] =
        (do
          let n ← asInt (.int .i64 ((n + 1 : Nat) : Int))
          if n < 0 then runtimePanic (.error "unsafe.String: len out of range")
          if n > IntKind.i64.max then unsupported (.unsafePointer "String: a length above the largest int")
          if n = 0 then pure (.string .empty)
          else if ← variablesAt ⟨(φ b).block, (φ b).off + o, none⟩ (← elemOf pt) n.toNat then do
            let s ← loadBytes ⟨(φ b).block, (φ b).off + o, none⟩ .empty n.toNat
            freeze ⟨(φ b).block, (φ b).off + o, none⟩ n.toNat
            pure (.string s)
          else unsupported (.unsafePointer "String: not so many bytes at ptr")) := rfl
    rw [hdef]
    have hmax : IntKind.i64.max = 9223372036854775807 := rfl
    have hneg : ¬ ((n + 1 : Nat) : Int) < 0 := by omega
    have h63 : ¬ (9223372036854775807 : Int) < ((n + 1 : Nat) : Int) := by omega
    have hz : ¬ ((n + 1 : Nat) : Int) = 0 := by omega
    have hsh : w.shape? (φ b).block = some (e, c.size) := by simp [World.shape?, h1]
    simp only [Sem.run_bind, asInt, asIntOf, Sem.run_pure, Result.andThen_ok, hmax, if_neg hneg, if_neg hz, gt_iff_lt, if_neg h63, elemOf, run_underlying (und_of hC hu), variablesAt, run_program, run_shape, hsh, hlies, if_true, Int.toNat_natCast, hload, run_freeze, hfz]
    simp

theorem builtin_sound (hC : CxOk C P) (hr : Rel C φ D s.heap w) (hn : ¬ D s.next) {b : Builtin} {argTypes : Array TypeId} {type : TypeId} {consts : Array Bool} {args : List Value} (hok : OkL D args) :
    OpOk C φ D s w (builtinA C b argTypes.toList args s) ((builtin b argTypes type consts (denL φ args).toArray).run P w) := by
  have h1 := (OkL_iff D args).1 hok
  cases b <;> simp only [builtinA, builtinSel] <;> first
    | trivial
    | exact append_sound hC hr hn hok
    | exact copy_sound hC hr hok
    | exact delete_sound hC hr hok
    | exact unsafeString_sound hC hr
    | exact clear_sound hC hr
    | exact .value hr fun v hv => by
        have := cap_sound (type := type) (φ := φ) (D := D) (w := w) (P := P) hC hv
        exact ⟨by simp [builtin, this.1], this.2⟩
    | exact .value hr fun v hv => by
        have := sliceData_sound (P := P) (w := w) (φ := φ) (argTypes := argTypes) (type := type) hok hv
        exact ⟨by simp [builtin, this.1], this.2⟩
    | exact .value hr fun v hv => by
        have := len_sound (type := type) hC hr hv
        exact ⟨by simp [builtin, this.1], this.2⟩
    | skip
  case max =>
    split
    · rename_i x r
      refine .value hr fun v hv => ?_
      have := fold_sound (P := P) (φ := φ) (D := D) (w := w) (fun x y v h => max2_sound h) (h1 x (List.mem_cons_self ..)) hv
      refine ⟨?_, this.2⟩
      simp only [builtin, Builtin.max_, denL, Sem.run_bind, this.1, Result.andThen_ok, Sem.run_pure]
    · trivial
  case min =>
    split
    · rename_i x r
      refine .value hr fun v hv => ?_
      have := fold_sound (P := P) (φ := φ) (D := D) (w := w) (fun x y v h => min2_sound h) (h1 x (List.mem_cons_self ..)) hv
      refine ⟨?_, this.2⟩
      simp only [builtin, Builtin.min_, denL, Sem.run_bind, this.1, Result.andThen_ok, Sem.run_pure]
    · trivial
  case panic =>
    split
    · rename_i x
      exact panicA_sound hr (h1 x (List.mem_cons_self ..))
    · trivial
  case recover => exact After.same hr ⟨.recover, rfl, trivial⟩

theorem method_sound (hC : CxOk C P) {t : TypeId} {v recv : Value} {name : String} {f : FuncId} (h : methodA C t v name = some (f, recv)) (hv : Ok D v) (n : Nat) :
    (method (n + 1) t (den φ v) name).run P w = .ok (f, den φ recv) w ∧ Ok D recv := by
  unfold methodA at h
  split at h
  case h_2 => cases h
  rename_i i hi
  split at h
  case h_2 => cases h
  rename_i m hm
  have hm' : i.methods.find? (·.name == name) = some m := by
    rw [← Array.find?_toList]; exact hm
  unfold method
  simp only [Sem.run_bind, run_info hC hi, Result.andThen_ok, hm']
  split at h
  · rename_i f' hp hf
    split at h
    case h_2 => cases h
    rename_i el hu
    cases h
    refine ⟨?_, hv⟩
    simp only [hp, follow, Sem.run_bind, Sem.run_pure, Result.andThen_ok, hf, receiverAt, run_und hC hu, Place.get]
  · rename_i f' hp hf
    split at h
    · cases h
    · rename_i d hno hu
      cases h
      refine ⟨?_, hv⟩
      simp only [hp, follow, Sem.run_bind, Sem.run_pure, Result.andThen_ok, hf, receiverAt, run_und hC hu]
      cases d <;> first
        | exact absurd hu (hno _)
        | simp [Place.get]
    · cases h
  · cases h

theorem allLt_mem {n : Nat} : ∀ {l : List Nat}, allLt n l = true → ∀ p ∈ l, p < n
  | [], _, p, hp => by cases hp
  | q :: r, h, p, hp => by
    simp only [allLt, Bool.and_eq_true, blt_iff] at h
    rcases List.mem_cons.1 hp with rfl | hp
    · exact h.1
    · exact allLt_mem h.2 p hp

theorem params_rel : ∀ (ps : List Nat) (vs : List Value) (T0 : T Value) (n : Nat) (tm : Array Value), (∀ p ∈ ps, p < n) → OkL D vs → TRel φ D T0 n tm →
    TRel φ D (paramsT ps vs T0) n ((ps.zip (denL φ vs)).foldl (fun tmps (p : Nat × Value) => tmps.setIfInBounds p.1 p.2) tm)
  | [], vs, T0, n, tm, _, _, h => by cases vs <;> exact h
  | p :: ps, [], T0, n, tm, _, _, h => by simpa [paramsT, denL] using h
  | p :: ps, v :: vs, T0, n, tm, hp, hv, h => by
    simp only [OkL] at hv
    simp only [paramsT, denL, List.zip_cons_cons, List.foldl_cons]
    refine params_rel ps vs _ n _ (fun q hq => hp q (List.mem_cons_of_mem _ hq)) hv.2 ⟨by simpa using h.1, ?_⟩
    intro i u hi
    have hpn := hp p (List.mem_cons_self ..)
    rw [T.get_set] at hi
    split at hi
    · rename_i e; cases hi; subst e
      exact ⟨hv.1, by rw [Array.getElem?_setIfInBounds_self_of_lt (by rw [h.1]; exact hpn)]⟩
    · rename_i e
      rw [Array.getElem?_setIfInBounds_ne (by omega)]
      exact h.2 i u hi

theorem invoke_sound (hC : CxOk C P) (hr : Rel C φ D s.heap w) (hn : ¬ D s.next) {d : Deferred} (hd : OkD D d) :
    OpOk C φ D s w (invokeA C d.target d.args.toList s) ((invoke (denD φ d).target (denD φ d).args).run P w) := by
  have hok := okL_args hd
  rw [denD_args]
  obtain ⟨target, args⟩ := d
  simp only [denD] at hok ⊢
  have ht := hd.1
  unfold invokeA
  split
  · exact OpOk.nilDeref hC hr (by simp only [denTarget, invoke]; exact nil_deref_run hC)
  · exact builtin_sound hC hr hn hok
  · rename_i f cap
    simp only [okTarget] at ht
    have hcap : OkL D cap.toList := by
      have := ht.2
      rw [OkA_iff] at this
      rw [OkL_iff]; exact this
    have : OkL D (args.toList ++ cap.toList) := by
      rw [OkL_iff] at hok hcap ⊢
      intro x hx
      rcases List.mem_append.1 hx with hx | hx
      · exact hok x hx
      · exact hcap x hx
    have := callFunc_sound (w := w) (f := f) hC hr hn this
    simp only [denTarget, denFn, invoke]
    have e : (denL φ args.toList).toArray ++ denA φ cap = (denL φ (args.toList ++ cap.toList)).toArray := by
      rw [denA_list]; simp [denL_map]
    rw [e]; exact this
  · rename_i l cap
    simp only [okTarget, okFn] at ht
    split
    case h_2 => trivial
    rename_i r hb
    generalize hg : (bif Nat.beq args.toList.length r.params.size && allLt r.ntm r.params.toList then R.ok (ANext.round l args.toList) s else R.fail) = res
    replace hg := bool_split hg; rcases hg with ⟨hc, hg⟩ | ⟨_, hg⟩
    case inr => subst hg; trivial
    simp only [Bool.and_eq_true, beq_iff] at hc
    subst hg
    obtain ⟨hDl, tm, htm, h1⟩ := hr.blk l _ hb
    have hsz : (denL φ args.toList).toArray.size = r.params.size := by rw [← hc.1]; simp [denL_map]
    refine After.same hr ⟨.round (φ l).block r.fn ((r.params.zip (denL φ args.toList).toArray).foldl (fun tmps (p : Nat × Value) => tmps.setIfInBounds p.1 p.2) tm) r.assign r.body, ?_, rfl, ht.1, r, hb, rfl, rfl, rfl, ?_⟩
    · simp only [denTarget, denFn, invoke, Instr.yield, Instr.getLoop, Sem.run_bind, run_getObj h1 (by intro _ _ _ h; cases h), Result.andThen_ok, Sem.run_pure]
      rw [if_neg (by simpa using hsz)]
      rfl
    · intro _
      have := params_rel r.params.toList args.toList r.tmps r.ntm tm (allLt_mem hc.2) hok htm
      have e : (r.params.zip (denL φ args.toList).toArray).foldl (fun tmps (p : Nat × Value) => tmps.setIfInBounds p.1 p.2) tm = (r.params.toList.zip (denL φ args.toList)).foldl (fun tmps (p : Nat × Value) => tmps.setIfInBounds p.1 p.2) tm := by
        rw [← Array.foldl_toList]; simp
      rw [e]; exact this
  · rename_i name cap
    split
    · rename_i t v rest hargs
      rw [hargs] at hok
      simp only [OkL, Ok] at hok
      split
      case h_2 => trivial
      rename_i f recv hm
      have hms := method_sound (φ := φ) (w := w) hC hm hok.1 (P.types.size + 99)
      have hcf := callFunc_sound (w := w) (f := f) hC hr hn (args := recv :: rest) (by simp only [OkL]; exact ⟨hms.2, hok.2⟩)
      have e0 : (denL φ args.toList).toArray[0]? = some (.iface t (den φ v)) := by rw [hargs]; simp [denL, den]
      have e1 : #[den φ recv] ++ (denL φ args.toList).toArray.extract 1 (denL φ args.toList).toArray.size = (denL φ (recv :: rest)).toArray := by
        rw [hargs]; apply Array.toList_inj.1; simp [denL]
      simp only [denTarget, denFn, invoke, e0, callMethod, Sem.run_bind, run_program, Result.andThen_ok]
      rw [show P.types.size + Made.depth = P.types.size + 99 + 1 from rfl, hms.1]
      simp only [Result.andThen_ok, e1]
      exact hcf
    · rename_i rest hargs
      refine OpOk.nilDeref hC hr ?_
      have e0 : (denL φ args.toList).toArray[0]? = some .nilIface := by rw [hargs]; simp [denL, den]
      simp only [denTarget, denFn, invoke, e0, callMethod]
      exact nil_deref_run hC
    · trivial
  · trivial

end
end Go.Eng
