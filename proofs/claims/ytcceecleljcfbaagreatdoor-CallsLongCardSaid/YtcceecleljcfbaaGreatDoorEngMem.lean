/- The abstract interpreter: its heap and the machine's. -/
import Derived.Test.YtcceecleljcfbaaGreatDoorEngRel
namespace Go.Eng
set_option linter.unusedVariables false
set_option linter.unusedSimpArgs false

def denTarget (φ : Phi) : Target → Target
  | .fn f c => .fn (denFn φ f) (denA φ c)
  | .collected r => .collected (φ r).block
  | t => t
def okTarget (D : Nat → Prop) : Target → Prop
  | .fn f c => okFn D f ∧ OkA D c
  | .collected r => D r
  | .coroexit _ => False
  | _ => True
def denD (φ : Phi) (d : Deferred) : Deferred := { target := denTarget φ d.target, args := denA φ d.args }
def OkD (D : Nat → Prop) (d : Deferred) : Prop := okTarget D d.target ∧ OkA D d.args
def denE (φ : Phi) (e : MapEntry) : MapEntry := { key := den φ e.key, val := den φ e.val, born := e.born }

theorem denFn_congr {φ ψ : Phi} {D : Nat → Prop} (h : ∀ i, D i → φ i = ψ i) (f : Fn) (hf : okFn D f) : denFn φ f = denFn ψ f := by
  cases f <;> simp only [okFn] at hf <;> simp [denFn]; rw [h _ hf]
theorem okFn.mono {D D' : Nat → Prop} (h : ∀ i, D i → D' i) (f : Fn) (hf : okFn D f) : okFn D' f := by
  cases f <;> simp only [okFn] at hf ⊢; exact h _ hf
theorem denTarget_congr {φ ψ : Phi} {D : Nat → Prop} (h : ∀ i, D i → φ i = ψ i) (t : Target) (ht : okTarget D t) : denTarget φ t = denTarget ψ t := by
  cases t <;> simp only [okTarget] at ht <;> simp only [denTarget]
  · rw [denFn_congr h _ ht.1, denA_congr h _ ht.2]
  · rw [h _ ht]
theorem okTarget.mono {D D' : Nat → Prop} (h : ∀ i, D i → D' i) (t : Target) (ht : okTarget D t) : okTarget D' t := by
  cases t <;> simp only [okTarget] at ht ⊢
  · exact ⟨okFn.mono h _ ht.1, OkA.mono h _ ht.2⟩
  · exact h _ ht
theorem denD_congr {φ ψ : Phi} {D : Nat → Prop} (h : ∀ i, D i → φ i = ψ i) (d : Deferred) (hd : OkD D d) : denD φ d = denD ψ d := by
  simp only [denD, denTarget_congr h _ hd.1, denA_congr h _ hd.2]
theorem OkD.mono {D D' : Nat → Prop} (h : ∀ i, D i → D' i) (d : Deferred) (hd : OkD D d) : OkD D' d := ⟨okTarget.mono h _ hd.1, OkA.mono h _ hd.2⟩

/-- The temporaries of a frame. -/
def TRel (φ : Phi) (D : Nat → Prop) (t : T Value) (n : Nat) (a : Array Value) : Prop :=
  a.size = n ∧ ∀ i v, t.get i = some v → Ok D v ∧ a[i]? = some (den φ v)

theorem TRel.mono {φ φ' : Phi} {D D' : Nat → Prop} {t : T Value} {n : Nat} {a : Array Value} (h : TRel φ D t n a) (hD : ∀ i, D i → D' i) (hφ : ∀ i, D i → φ' i = φ i) :
    TRel φ' D' t n a :=
  ⟨h.1, fun i v hi => ⟨Ok.mono hD v (h.2 i v hi).1, by rw [den_congr hφ v (h.2 i v hi).1]; exact (h.2 i v hi).2⟩⟩

def writable : Blk → Bool
  | .cells _ _ st _ => Nat.beq st 0
  | _ => true
def parOf : Blk → Option Nat
  | .cells _ _ _ p => p
  | _ => none

/-- What block b, at place p, says of the machine's memory. -/
def BlkIs (C : Cx) (φ : Phi) (D : Nat → Prop) (w : World) (p : Pl) : Blk → Prop
  | .cells vs elem st _ => OkL D vs ∧ ∃ c fr sz, w.heap[p.block]? = some (.cells c elem fr) ∧ C.size elem = some sz ∧ p.off + vs.length + p.slack * sz ≤ c.size ∧
      (∀ j v, vs[j]? = some v → c[p.off + j]? = some (den φ v)) ∧ (st < 2 → fr.1 = fr.2 ∨ c.size ≤ fr.1) ∧ p.off % sz = 0
  | .map es clock => (∀ e ∈ es, Ok D e.key ∧ Ok D e.val) ∧ w.heap[p.block]? = some (.map (es.map (denE φ)).toArray clock)
  | .sIter s pos => p.off = 0 ∧ w.heap[p.block]? = some (.stringIter ⟨⟨s⟩⟩ pos)
  | .mIter m since seen st => (∀ i, m = some i → D i) ∧ p.off = 0 ∧ w.heap[p.block]? = some (.mapIter (m.map fun i => (φ i).block) since seen.toArray st)
  | .loop r => D r.defers ∧ ∃ tm, TRel φ D r.tmps r.ntm tm ∧
      w.heap[p.block]? = some (.loop { state := r.state, pending := r.pending, fn := r.fn, tmps := tm, params := r.params, assign := r.assign, body := r.body, defers := (φ r.defers).block })
  | .deferred ds => (∀ l, ds = some l → ∀ d ∈ l, OkD D d) ∧ w.heap[p.block]? = some (.deferred (ds.map (·.map (denD φ))))
  | .chan cap buf sent rcvd => OkL D buf ∧ w.heap[p.block]? = some (.chan cap (denL φ buf).toArray false sent rcvd false)

theorem BlkIs.mono {C : Cx} {φ φ' : Phi} {D D' : Nat → Prop} {w w' : World} {p : Pl} {b : Blk} (h : BlkIs C φ D w p b) (hD : ∀ i, D i → D' i) (hφ : ∀ i, D i → φ' i = φ i)
    (hw : w'.heap[p.block]? = w.heap[p.block]?) : BlkIs C φ' D' w' p b := by
  cases b with
  | cells vs elem st par =>
    obtain ⟨ho, c, fr, sz, h1, h2, h3, h4, h5, h6⟩ := h
    refine ⟨OkL.mono hD vs ho, c, fr, sz, hw.trans h1, h2, h3, fun j v hj => ?_, h5, h6⟩
    rw [den_congr hφ v ((OkL_iff D vs).1 ho v (List.mem_of_getElem? hj))]
    exact h4 j v hj
  | map es clock =>
    obtain ⟨ho, h1⟩ := h
    refine ⟨fun e he => ⟨Ok.mono hD _ (ho e he).1, Ok.mono hD _ (ho e he).2⟩, hw.trans (h1.trans ?_)⟩
    rw [List.map_congr_left (g := denE φ') fun e he => by simp only [denE, den_congr hφ _ (ho e he).1, den_congr hφ _ (ho e he).2]]
  | sIter s pos => exact ⟨h.1, hw.trans h.2⟩
  | mIter m since seen st =>
    obtain ⟨ho, h0, h1⟩ := h
    refine ⟨fun i hi => hD i (ho i hi), h0, hw.trans (h1.trans ?_)⟩
    cases m with
    | none => rfl
    | some i => simp only [Option.map_some, hφ i (ho i rfl)]
  | loop r =>
    obtain ⟨ho, tm, h1, h2⟩ := h
    refine ⟨hD _ ho, tm, h1.mono hD hφ, hw.trans (h2.trans ?_)⟩
    rw [hφ _ ho]
  | chan cap buf sent rcvd =>
    obtain ⟨ho, h1⟩ := h
    exact ⟨OkL.mono hD buf ho, hw.trans (h1.trans (by rw [denL_congr (ψ := φ') (fun i hi => (hφ i hi).symm) buf ho]))⟩
  | deferred ds =>
    obtain ⟨ho, h1⟩ := h
    refine ⟨fun l hl d hd => OkD.mono hD d (ho l hl d hd), hw.trans (h1.trans ?_)⟩
    cases ds with
    | none => rfl
    | some l => simp only [Option.map_some]; rw [List.map_congr_left (g := denD φ') fun d hd => (denD_congr hφ d (ho l rfl d hd)).symm]

structure Rel (C : Cx) (φ : Phi) (D : Nat → Prop) (h : T Blk) (w : World) : Prop where
  dom : ∀ i b, h.get i = some b → D i
  blk : ∀ i b, h.get i = some b → BlkIs C φ D w (φ i) b
  sep : ∀ i j bi bj, h.get i = some bi → h.get j = some bj → writable bi = true → (φ i).block = (φ j).block → i = j ∨ parOf bi = some j
  glob : ∀ g, g < C.globals → D g ∧ φ g = ⟨g, 0, 0⟩

/-- From one moment to a later one. -/
structure Ext (φ : Phi) (D : Nat → Prop) (h : T Blk) (w : World) (φ' : Phi) (D' : Nat → Prop) (h' : T Blk) (w' : World) : Prop where
  dom : ∀ i, D i → D' i
  phi : ∀ i, D i → φ' i = φ i
  size : w.heap.size ≤ w'.heap.size
  os : w'.os = w.os
  tape : w'.tape = w.tape
  output : w'.output = w.output
  frame : ∀ b, b < w.heap.size → (∀ i bi, h.get i = some bi → writable bi = true → (φ i).block ≠ b) → w'.heap[b]? = w.heap[b]?
  range : ∀ i bi, h'.get i = some bi → writable bi = true → (φ' i).block < w.heap.size → ∃ j bj, h.get j = some bj ∧ writable bj = true ∧ (φ j).block = (φ' i).block
  all : ∀ i bi, h'.get i = some bi → (φ' i).block < w.heap.size → ∃ j bj, h.get j = some bj ∧ (φ j).block = (φ' i).block

theorem Ext.refl (φ : Phi) (D : Nat → Prop) (h : T Blk) (w : World) : Ext φ D h w φ D h w :=
  ⟨fun _ h => h, fun _ _ => rfl, Nat.le_refl _, rfl, rfl, rfl, fun _ _ _ => rfl, fun i bi hi hw _ => ⟨i, bi, hi, hw, rfl⟩, fun i bi hi _ => ⟨i, bi, hi, rfl⟩⟩

theorem Ext.trans {φ φ' φ'' : Phi} {D D' D'' : Nat → Prop} {h h' h'' : T Blk} {w w' w'' : World} (a : Ext φ D h w φ' D' h' w') (b : Ext φ' D' h' w' φ'' D'' h'' w'') :
    Ext φ D h w φ'' D'' h'' w'' where
  dom i hi := b.dom i (a.dom i hi)
  phi i hi := (b.phi i (a.dom i hi)).trans (a.phi i hi)
  size := Nat.le_trans a.size b.size
  os := b.os.trans a.os
  tape := b.tape.trans a.tape
  output := b.output.trans a.output
  frame k hk hno := by
    rw [b.frame k (Nat.lt_of_lt_of_le hk a.size), a.frame k hk hno]
    intro i bi hi hw e
    obtain ⟨j, bj, hj, hwj, ej⟩ := a.range i bi hi hw (by rw [e]; exact hk)
    exact hno j bj hj hwj (ej.trans e)
  range i bi hi hw hlt := by
    obtain ⟨j, bj, hj, hwj, ej⟩ := b.range i bi hi hw (Nat.lt_of_lt_of_le hlt a.size)
    obtain ⟨k, bk, hk, hwk, ek⟩ := a.range j bj hj hwj (by rw [ej]; exact hlt)
    exact ⟨k, bk, hk, hwk, ek.trans ej⟩
  all i bi hi hlt := by
    obtain ⟨j, bj, hj, ej⟩ := b.all i bi hi (Nat.lt_of_lt_of_le hlt a.size)
    obtain ⟨k, bk, hk, ek⟩ := a.all j bj hj (by rw [ej]; exact hlt)
    exact ⟨k, bk, hk, ek.trans ej⟩

/-- Nothing but the count of draws has turned. -/
theorem Rel.drew {C : Cx} {φ : Phi} {D : Nat → Prop} {h : T Blk} {w w' : World} (hr : Rel C φ D h w) (hw : w'.heap = w.heap) : Rel C φ D h w' :=
  ⟨hr.dom, fun i b hi => (hr.blk i b hi).mono (fun _ h => h) (fun _ _ => rfl) (by rw [hw]), hr.sep, hr.glob⟩
theorem Ext.drew {φ : Phi} {D : Nat → Prop} {h : T Blk} {w w' : World} (hw : w'.heap = w.heap) (ho : w'.os = w.os) (ht : w'.tape = w.tape) (hp : w'.output = w.output) : Ext φ D h w φ D h w' :=
  ⟨fun _ h => h, fun _ _ => rfl, by rw [hw]; exact Nat.le_refl _, ho, ht, hp, fun _ _ _ => by rw [hw], fun i bi hi hw _ => ⟨i, bi, hi, hw, rfl⟩, fun i bi hi _ => ⟨i, bi, hi, rfl⟩⟩

def updPhi (φ : Phi) (n : Nat) (p : Pl) : Phi := fun i => if i = n then p else φ i
def addD (D : Nat → Prop) (n : Nat) : Nat → Prop := fun i => D i ∨ i = n

theorem heap_lt {w : World} {b : Nat} {o : Obj} (h : w.heap[b]? = some o) : b < w.heap.size := (Array.getElem?_eq_some_iff.1 h).1
theorem BlkIs.lt {C : Cx} {φ : Phi} {D : Nat → Prop} {w : World} {p : Pl} {b : Blk} (h : BlkIs C φ D w p b) : p.block < w.heap.size := by
  cases b with
  | cells vs elem st par => obtain ⟨_, c, fr, sz, h1, _⟩ := h; exact heap_lt h1
  | map es clock => exact heap_lt h.2
  | sIter s pos => exact heap_lt h.2
  | chan cap buf sent rcvd => exact heap_lt h.2
  | mIter m since seen st => exact heap_lt h.2.2
  | loop r => obtain ⟨_, tm, _, h2⟩ := h; exact heap_lt h2
  | deferred ds => exact heap_lt h.2

/-- A new block. -/
theorem Rel.new {C : Cx} {φ : Phi} {D : Nat → Prop} {h : T Blk} {w w' : World} (hr : Rel C φ D h w) {n : Nat} (hn : ¬ D n) {o : Obj} {sl off : Nat} {b : Blk}
    (hw : w'.heap = w.heap.push o) (ho : w'.os = w.os) (ht : w'.tape = w.tape) (hp : w'.output = w.output)
    (hb : BlkIs C (updPhi φ n ⟨w.heap.size, off, sl⟩) (addD D n) w' ⟨w.heap.size, off, sl⟩ b) :
    Rel C (updPhi φ n ⟨w.heap.size, off, sl⟩) (addD D n) (h.set n b) w' ∧
    Ext φ D h w (updPhi φ n ⟨w.heap.size, off, sl⟩) (addD D n) (h.set n b) w' := by
  have hφ : ∀ i, D i → updPhi φ n ⟨w.heap.size, off, sl⟩ i = φ i := fun i hi => by
    unfold updPhi; rw [if_neg]; intro e; subst e; exact hn hi
  have hold : ∀ i bi, h.get i = some bi → i ≠ n := fun i bi hi e => hn (e ▸ hr.dom i bi hi)
  have hlt : ∀ i bi, h.get i = some bi → (φ i).block < w.heap.size := fun i bi hi => (hr.blk i bi hi).lt
  have hkeep : ∀ k, k < w.heap.size → w'.heap[k]? = w.heap[k]? := fun k hk => by rw [hw, Array.getElem?_push, if_neg (by omega)]
  refine ⟨⟨?_, ?_, ?_, ?_⟩, ⟨fun i hi => .inl hi, hφ, by rw [hw]; simp, ho, ht, hp, fun k hk _ => hkeep k hk, ?_, ?_⟩⟩
  · intro i bi hi
    rw [T.get_set] at hi
    split at hi
    · rename_i e; exact .inr e
    · exact .inl (hr.dom i bi hi)
  · intro i bi hi
    rw [T.get_set] at hi
    split at hi
    · rename_i e
      cases hi
      have : updPhi φ n ⟨w.heap.size, off, sl⟩ i = ⟨w.heap.size, off, sl⟩ := by unfold updPhi; rw [if_pos e]
      rw [this]; exact hb
    · have hd := hr.dom i bi hi
      rw [hφ i hd]
      exact (hr.blk i bi hi).mono (fun _ h => .inl h) hφ (hkeep _ (hlt i bi hi))
  · intro i j bi bj hi hj hwr e
    rw [T.get_set] at hi hj
    by_cases ei : i = n <;> by_cases ej : j = n
    · left; omega
    · rw [if_neg ej] at hj
      exfalso
      have h1 : updPhi φ n ⟨w.heap.size, off, sl⟩ i = ⟨w.heap.size, off, sl⟩ := by unfold updPhi; rw [if_pos ei]
      rw [h1, hφ j (hr.dom j bj hj)] at e
      have := hlt j bj hj
      simp at e
      omega
    · rw [if_neg ei] at hi
      exfalso
      have h1 : updPhi φ n ⟨w.heap.size, off, sl⟩ j = ⟨w.heap.size, off, sl⟩ := by unfold updPhi; rw [if_pos ej]
      rw [h1, hφ i (hr.dom i bi hi)] at e
      have := hlt i bi hi
      simp at e
      omega
    · rw [if_neg ei] at hi; rw [if_neg ej] at hj
      rw [hφ i (hr.dom i bi hi), hφ j (hr.dom j bj hj)] at e
      exact hr.sep i j bi bj hi hj hwr e
  · intro g hg
    have := hr.glob g hg
    exact ⟨.inl this.1, (hφ g this.1).trans this.2⟩
  · intro i bi hi hwr hl
    rw [T.get_set] at hi
    split at hi
    · rename_i e
      exfalso
      have h1 : updPhi φ n ⟨w.heap.size, off, sl⟩ i = ⟨w.heap.size, off, sl⟩ := by unfold updPhi; rw [if_pos e]
      rw [h1] at hl
      simp at hl
    · rw [hφ i (hr.dom i bi hi)] at hl ⊢
      exact ⟨i, bi, hi, hwr, rfl⟩
  · intro i bi hi hl
    rw [T.get_set] at hi
    split at hi
    · rename_i e
      exfalso
      have h1 : updPhi φ n ⟨w.heap.size, off, sl⟩ i = ⟨w.heap.size, off, sl⟩ := by unfold updPhi; rw [if_pos e]
      rw [h1] at hl
      simp at hl
    · rw [hφ i (hr.dom i bi hi)] at hl ⊢
      exact ⟨i, bi, hi, rfl⟩

/-- A block is not asked any more. -/
theorem Rel.del {C : Cx} {φ : Phi} {D : Nat → Prop} {h : T Blk} {w : World} (hr : Rel C φ D h w) (q : Nat) : Rel C φ D (h.del q) w := by
  have hg : ∀ i b, (h.del q).get i = some b → h.get i = some b := fun i b hi => by
    rw [T.get_del] at hi; split at hi
    · cases hi
    · exact hi
  exact ⟨fun i b hi => hr.dom i b (hg i b hi), fun i b hi => hr.blk i b (hg i b hi), fun i j bi bj hi hj => hr.sep i j bi bj (hg i bi hi) (hg j bj hj), hr.glob⟩
theorem Ext.del {φ : Phi} {D : Nat → Prop} {h : T Blk} {w : World} (q : Nat) : Ext φ D h w φ D (h.del q) w := by
  refine ⟨fun _ h => h, fun _ _ => rfl, Nat.le_refl _, rfl, rfl, rfl, fun _ _ _ => rfl, fun i bi hi hw _ => ⟨i, bi, ?_, hw, rfl⟩, fun i bi hi _ => ⟨i, bi, ?_, rfl⟩⟩ <;>
  · rw [T.get_del] at hi; split at hi
    · cases hi
    · exact hi

/-- The one writable block id turns; nobody else lies in its block, but the parent that has been struck. -/
theorem Rel.write {C : Cx} {φ : Phi} {D : Nat → Prop} {h : T Blk} {w w' : World} (hr : Rel C φ D h w) {id : Nat} {b b' : Blk} (hid : h.get id = some b) (hwr : writable b = true)
    (hpar : ∀ q, parOf b = some q → h.get q = none) (hp' : ∀ q, parOf b' = some q → parOf b = some q)
    (hsz : w'.heap.size = w.heap.size) (hother : ∀ k, k ≠ (φ id).block → w'.heap[k]? = w.heap[k]?) (ho : w'.os = w.os) (ht : w'.tape = w.tape) (hp : w'.output = w.output)
    (hb : BlkIs C φ D w' (φ id) b') :
    Rel C φ D (h.set id b') w' ∧ Ext φ D h w φ D (h.set id b') w' := by
  have halone : ∀ j bj, h.get j = some bj → j ≠ id → (φ j).block ≠ (φ id).block := fun j bj hj hne e => by
    rcases hr.sep id j b bj hid hj hwr e.symm with e' | e'
    · exact hne e'.symm
    · rw [hpar j e'] at hj; cases hj
  refine ⟨⟨?_, ?_, ?_, hr.glob⟩, ⟨fun _ h => h, fun _ _ => rfl, Nat.le_of_eq hsz.symm, ho, ht, hp, ?_, ?_, ?_⟩⟩
  · intro i bi hi
    rw [T.get_set] at hi
    split at hi
    · rename_i e; rw [e]; exact hr.dom id b hid
    · exact hr.dom i bi hi
  · intro i bi hi
    rw [T.get_set] at hi
    split at hi
    · rename_i e; cases hi; rw [e]; exact hb
    · rename_i e
      exact (hr.blk i bi hi).mono (fun _ h => h) (fun _ _ => rfl) (hother _ (halone i bi hi e))
  · intro i j bi bj hi hj hw e
    rw [T.get_set] at hi hj
    by_cases ei : i = id <;> by_cases ej : j = id
    · left; omega
    · rw [if_neg ej] at hj
      rw [ei] at e
      exact absurd e.symm (halone j bj hj ej)
    · rw [if_neg ei] at hi
      rw [ej] at e
      exact absurd e (halone i bi hi ei)
    · rw [if_neg ei] at hi; rw [if_neg ej] at hj
      exact hr.sep i j bi bj hi hj hw e
  · intro k hk hno
    exact hother k (fun e => hno id b hid hwr e.symm)
  · intro i bi hi hw hl
    rw [T.get_set] at hi
    split at hi
    · rename_i e; exact ⟨id, b, hid, hwr, by rw [e]⟩
    · exact ⟨i, bi, hi, hw, rfl⟩
  · intro i bi hi hl
    rw [T.get_set] at hi
    split at hi
    · rename_i e; exact ⟨id, b, hid, by rw [e]⟩
    · exact ⟨i, bi, hi, rfl⟩

end Go.Eng
