/- The abstract interpreter: conversions. -/
import Derived.Test.YtcceecleljcfbaaGreatDoorEngOpsB
import Derived.Lib.Builder
import Derived.Lib.UnsafeStr
import Derived.Laws.BytesString
namespace Go.Eng
set_option linter.unusedVariables false
set_option linter.unusedSimpArgs false

section
variable {C : Cx} {P : Program} {φ : Phi} {D : Nat → Prop} {s : St} {w : World} {e : E} {a : Act}

theorem bytesOf_cells : ∀ {l : List Value} {bs : List UInt8}, bytesOfCells l = some bs → ∃ ns : List Int, l = ns.map (Value.int .u8) ∧ bs = ns.map fun n => UInt8.ofNat n.toNat
  | [], bs, h => by simp only [bytesOfCells, Option.some.injEq] at h; subst h; exact ⟨[], rfl, rfl⟩
  | v :: r, bs, h => by
    unfold bytesOfCells at h
    split at h
    · rename_i heq; cases heq
    · rename_i n r' heq
      cases heq
      split at h
      · rename_i l hl
        cases h
        obtain ⟨ns, rfl, rfl⟩ := bytesOf_cells hl
        exact ⟨n :: ns, rfl, rfl⟩
      · cases h
    · cases h

theorem foldl_push (ns : List Int) : ∀ (s : ByteArray), ns.foldl (fun r n => r.push (UInt8.ofNat n.toNat)) s = ⟨⟨s.data.toList ++ ns.map fun n => UInt8.ofNat n.toNat⟩⟩ := by
  induction ns with
  | nil => intro s; simp
  | cons n r ih =>
    intro s
    rw [List.foldl_cons, ih]
    congr 2
    simp [ByteArray.push]

theorem denL_ints (φ : Phi) (ns : List Int) (k : IntKind) : denL φ (ns.map (Value.int k)) = ns.map (Value.int k) := by
  rw [denL_map, List.map_map]; rfl

theorem toStr_sound (hr : Rel C φ D s.heap w) {x v : Value} (h : toStrA s x = some v) : (Conv.bytesToString (den φ x)).run P w = .ok (den φ v) w ∧ Ok D v := by
  unfold toStrA at h
  split at h
  case h_2 => cases h
  rename_i ad len cap
  split at h
  case h_2 => cases h
  rename_i n l hrd
  split at h
  case h_2 => cases h
  rename_i bs hbs
  cases h
  refine ⟨?_, by simp [Ok]⟩
  obtain ⟨ns, rfl, rfl⟩ := bytesOf_cells hbs
  obtain ⟨h1, h2, h3, h4⟩ := rd_sound (P := P) hr hrd
  cases ad with
  | none =>
    have : n = 0 := by
      unfold rdSlice at hrd
      replace hrd := bool_split hrd; rcases hrd with ⟨_, hrd⟩ | ⟨_, hrd⟩
      · simp only [Option.some.injEq, Prod.mk.injEq] at hrd; exact hrd.1.symm
      · cases hrd
    subst this
    have hns : ns = [] := by
      have : ns.length = 0 := by simpa using h3
      exact List.length_eq_zero_iff.1 this
    subst hns
    simp [den, Conv.bytesToString]
    rfl
  | some ad =>
    obtain ⟨b, o, sp⟩ := ad
    cases sp with
    | some k =>
      have h0 : len = 0 ∧ n = 0 ∧ ns = [] := by
        unfold rdSlice at hrd
        simp only at hrd
        cases hb : Nat.beq len 0 with
        | false => rw [hb] at hrd; cases hrd
        | true =>
          rw [hb] at hrd
          simp only [cond_true, Option.some.injEq, Prod.mk.injEq] at hrd
          refine ⟨Nat.eq_of_beq_eq_true hb, hrd.1.symm, ?_⟩
          have := congrArg List.length hrd.2
          simp at this
          exact List.length_eq_zero_iff.1 this.symm
      obtain ⟨rfl, rfl, rfl⟩ := h0
      simp only [den]
      have := run_bytesToString (P := P) w ⟨(φ b).block, (φ b).off + o + spotOf φ ⟨b, o, some k⟩, none⟩ 0 (cap / 2 + cap % 2 * (φ b).slack) [] (by simp [loadCells, loadCellsFrom, Sem.run_pure])
      rw [this]; rfl
    | none =>
    have hn : n = len := by
      unfold rdSlice at hrd
      simp only at hrd
      split at hrd
      · split at hrd
        · cases hrd; rfl
        · cases hrd
      · cases hrd
    subst hn
    have hall := rd_all (P := P) hr hrd
    rw [den_slice] at hall ⊢
    simp only [Builtin.firstCells, Nat.mul_one] at hall
    rw [denL_ints] at hall
    rw [run_bytesToString w _ _ _ ns hall, foldl_push]
    simp [den]

theorem freeze_push {w : World} {c : Array Value} {elem : TypeId} : ({ w with heap := w.heap.push (.cells c elem) } : World).freeze ⟨w.heap.size, c.size, none⟩ 1 = { w with heap := w.heap.push (.cells c elem (c.size, c.size + 1)) } := by
  unfold World.freeze
  simp only [Nat.one_ne_zero, if_false]
  refine world_ext ?_ rfl rfl rfl rfl
  apply Array.ext_getElem?
  intro k
  simp only [Array.getElem?_modify, Array.getElem?_push]
  by_cases hk : k = w.heap.size
  · subst hk; simp
  · rw [if_neg (by omega), if_neg hk, if_neg hk]

theorem freeze_setB {w : World} {b : Nat} {c : Array Value} {elem : TypeId} {fr : Nat × Nat} (h : w.heap[b]? = some (.cells c elem fr)) (hf : fr.1 = fr.2 ∨ c.size ≤ fr.1) :
    ∃ fr', (fr'.1 = fr'.2 ∨ c.size ≤ fr'.1) ∧ w.freeze ⟨b, c.size, none⟩ 1 = setB w b (.cells c elem fr') := by
  obtain ⟨lo, hi⟩ := fr
  refine ⟨if lo == hi then (c.size, c.size + 1) else (min lo c.size, max hi (c.size + 1)), ?_, ?_⟩
  · simp only at hf
    by_cases he : lo = hi
    · simp [he]
    · simp [he]; omega
  · unfold World.freeze
    simp only [Nat.one_ne_zero, if_false]
    refine world_ext ?_ rfl rfl rfl rfl
    apply Array.ext_getElem?
    intro k
    by_cases hk : k = b
    · subst hk
      rw [setB_same (heap_lt h)]
      simp [Array.getElem?_modify, h]
    · rw [setB_other hk]
      simp only [Array.getElem?_modify]
      rw [if_neg (by omega)]

theorem mark_sound (hC : CxOk C P) (hr : Rel C φ D s.heap w) {src dst : TypeId} {x : Value} {e0 e1 : TypeId} (hs : C.und src = some (.slice e1)) (hd : C.und dst = some (.slice e0)) (he : C.und e0 = some (.int .u8)) (hx : Ok D x) :
    OpOk C φ D s w (markA s src dst x) ((do pure (.value (← convert src dst (den φ x))) : Sem Next).run P w) := by
  generalize hg : markA s src dst x = res
  unfold markA at hg
  replace hg := bool_split hg; rcases hg with ⟨heq, hg⟩ | ⟨_, hg⟩
  case inr => subst hg; trivial
  rw [beq_iff] at heq
  subst heq
  split at hg
  case h_2 => subst hg; trivial
  rename_i b o len cap
  split at hg
  case h_2 => subst hg; trivial
  rename_i vs e2 par hb
  replace hg := bool_split hg; rcases hg with ⟨_, hg⟩ | ⟨hpi, hg⟩
  · subst hg; trivial
  subst hg
  have hparid : par ≠ some b := by rintro rfl; simp [parIs] at hpi
  obtain ⟨ho, c, fr, sz, h1, h2, h3, h4, h5, h6⟩ := hr.blk b _ hb
  have hf := h5 (by omega)
  obtain ⟨fr', hf', hfz⟩ := freeze_setB h1 hf
  have hk := killPar_rel hr par
  have hke := killPar_ext (φ := φ) (D := D) (w := w) s par
  have hb2 : (killPar s par).heap.get b = some (.cells vs e2 0 par) := by
    cases par with
    | none => exact hb
    | some q =>
      simp only [killPar]
      rw [T.get_del, if_neg (fun e => hparid (by rw [e])), hb]
  have hwrite := hk.write (w' := setB w (φ b).block (.cells c e2 fr')) (b' := .cells vs e2 0 none) hb2 rfl
    (by
      intro q hq
      simp only [parOf] at hq
      subst hq
      simp [killPar, T.get_del])
    (by intro q hq; simp [parOf] at hq) (setB_size ..) (fun k hk' => setB_other hk') rfl rfl rfl
    ⟨ho, c, fr', sz, setB_same (heap_lt h1), h2, h3, h4, fun _ => hf', h6⟩
  refine ⟨φ, D, _, hwrite.1, hke.trans hwrite.2, .inl ⟨rfl, rfl⟩, .value (den φ (.slice (some ⟨b, o, none⟩) len cap)), ?_, hx, rfl⟩
  rw [den_slice]
  simp only [convert, Sem.run_bind, run_und hC hs, run_und hC hd, Result.andThen_ok]
  rw [hs] at hd; cases hd
  simp only [beq_self_eq_true, run_und hC he, Sem.run_bind, Result.andThen_ok, markStringish, run_shape, World.shape?, h1, run_freeze, hfz, Sem.run_pure]

def byteRow (b : ByteArray) (n : Nat) : Array Value := (b.data.map fun (x : UInt8) => Value.int .u8 x.toNat) ++ Array.replicate n (Value.int .u8 0)

/-- An element of a row lies there. -/
theorem lies_row {P : Program} {e : TypeId} {s : Nat} (hc : P.cellsOf e = s) (hs : s ≠ 0) {count off n : Nat} (ho : off % s = 0) (hn : off / s + n ≤ count) : liesAt P P.depth e count off e n = true := by
  have hd : P.depth = (2 * (P.types.size + Made.depth) + 1) + 1 := rfl
  rw [hd]
  simp only [liesAt, Bool.or_eq_true]
  left
  rw [hd]
  simp [rowAt, hc, hs, ho, hn, sameLayout]

theorem info_size (hC : CxOk C P) {t : TypeId} {n : Nat} (h : C.size t = some n) : ∃ i, P.info? t = some i ∧ i.size = n := by
  rw [Cx.size_eq] at h; unfold size0 at h
  simp only [Option.map_eq_some_iff] at h
  obtain ⟨i, hi, rfl⟩ := h
  exact ⟨i, hC.info t i hi, rfl⟩

theorem toUnsafe_sound (hC : CxOk C P) (hr : Rel C φ D s.heap w) {src dst t : TypeId} {x v : Value} (hs : C.und src = some (.pointer t)) (hd : C.und dst = some .unsafePointer) (hx : Ok D x) (h : toUnsafeA C s t x = some v) :
    (convert src dst (den φ x)).run P w = .ok (den φ v) w ∧ Ok D v := by
  unfold toUnsafeA at h
  split at h
  · cases h
    refine ⟨?_, hx⟩
    simp [convert, run_und hC hs, run_und hC hd, den, Conv.unsafePointer]
  · rename_i b o
    split at h
    case h_2 => cases h
    rename_i n vs e st par hsz hb
    replace h := bool_split h; rcases h with ⟨ho, h⟩ | ⟨_, h⟩
    case inr => cases h
    rw [blt_iff] at ho
    cases h
    obtain ⟨_, c, fr, sz, h1, h2, h3, h4, h5, h6⟩ := hr.blk b _ hb
    obtain ⟨i, hi, hin⟩ := info_size hC hsz
    have := Lib.run_to_unsafe (P := P) w (src := src) (dst := dst) ⟨(φ b).block, (φ b).off + o, none⟩ (und_of hC hs) (und_of hC hd) hi (by omega) (e := e) (cells := c.size) (by simp [World.shape?, h1]) (by simp only; omega)
    refine ⟨?_, hx⟩
    simp only [den]
    exact this
  · cases h

theorem fromUnsafe_sound (hC : CxOk C P) (hr : Rel C φ D s.heap w) {src dst u : TypeId} {x v : Value} (hs : C.und src = some .unsafePointer) (hd : C.und dst = some (.pointer u)) (hx : Ok D x) (h : fromUnsafeA C s u x = some v) :
    (convert src dst (den φ x)).run P w = .ok (den φ v) w ∧ Ok D v := by
  unfold fromUnsafeA at h
  split at h
  · cases h
    refine ⟨?_, hx⟩
    simp [convert, run_und hC hs, run_und hC hd, den, Conv.unsafePointer]
  · rename_i b o
    split at h
    case h_2 => cases h
    rename_i n vs e st par hsz hb
    replace h := bool_split h; rcases h with ⟨hc, h⟩ | ⟨_, h⟩
    case inr => cases h
    simp only [Bool.and_eq_true, beq_iff, ble_iff] at hc
    obtain ⟨he, hoz, hle⟩ := hc
    subst he
    cases h
    obtain ⟨_, c, fr, sz, h1, h2, h3, h4, h5, h6⟩ := hr.blk b _ hb
    obtain ⟨i, hi, hin⟩ := info_size hC hsz
    rw [hsz] at h2; cases h2
    have hcells : P.cellsOf e = n + 1 := by simp [Program.cellsOf, hi, hin]
    have hmod : ((φ b).off + o) % (n + 1) = 0 := by rw [Nat.add_mod, h6, hoz]; simp
    have hlies : liesAt P P.depth e (c.size / P.cellsOf e) ((φ b).off + o) e 1 = true := by
      rw [hcells]
      refine lies_row hcells (by omega) hmod ?_
      have : ((φ b).off + o + (n + 1)) / (n + 1) ≤ c.size / (n + 1) := Nat.div_le_div_right (by omega)
      rwa [Nat.add_div_right _ (Nat.succ_pos n)] at this
    have := Lib.run_from_unsafe (P := P) w (src := src) (dst := dst) ⟨(φ b).block, (φ b).off + o, none⟩ (und_of hC hs) (und_of hC hd) hi (e := e) (cells := c.size) (by simp [World.shape?, h1]) hlies
    refine ⟨?_, hx⟩
    simp only [den]
    exact this
  · cases h

theorem op_conv (hC : CxOk C P) (hr : Rel C φ D s.heap w) (hn : ¬ D s.next) {src dst : TypeId} {x : Value} (hx : Ok D x) :
    OpOk C φ D s w (convA C src dst x s) ((do pure (.value (← convert src dst (den φ x))) : Sem Next).run P w) := by
  generalize hg : convA C src dst x s = res
  unfold convA at hg
  split at hg
  case h_2 => subst hg; trivial
  rename_i sd dd hs hd
  split at hg
  · rename_i k n
    split at hg
    · rename_i k'
      subst hg
      refine .ok_value hr ?_ (by simp [Ok])
      simp only [convert, Sem.run_bind, run_und hC hs, run_und hC hd, Result.andThen_ok, den]
      cases sd <;> simp [Conv.intToInt]
    · subst hg; trivial
  · rename_i b
    split at hg
    · subst hg
      refine .ok_value hr ?_ (by simp [Ok])
      simp only [convert, Sem.run_bind, run_und hC hs, run_und hC hd, Result.andThen_ok, den]
      cases sd <;> simp
    · rename_i e0
      split at hg
      case h_2 => subst hg; trivial
      rename_i he
      replace hg := bool_split hg; rcases hg with ⟨hc, hg⟩ | ⟨_, hg⟩
      case inr => subst hg; trivial
      simp only [Bool.and_eq_true, blt_iff] at hc
      obtain ⟨hlt, hsz⟩ := hc
      split at hsz
      case h_2 => cases hsz
      rename_i n hn'
      rw [beq_iff] at hsz
      subst hsz
      subst hg
      obtain ⟨q, hq⟩ : ∃ q, q = (Question.appendCap b.size 0 e0).cut (w.tape w.drawn (.appendCap b.size 0 e0)) := ⟨_, rfl⟩
      have hqle : b.size ≤ q := by rw [hq]; simp [Question.cut]
      refine After.cells (w' := { w with drawn := w.drawn + 1, heap := w.heap.push (.cells (byteRow b (q - b.size)) e0 ((byteRow b (q - b.size)).size, (byteRow b (q - b.size)).size + 1)) })
        (c := byteRow b (q - b.size)) (sl := q - b.size) (sz := 1) hr hn rfl rfl rfl rfl (ok_bytes D _) hn' ?_ ?_ (.inr (Nat.le_refl _)) ?_
      · simp [byteRow]
      · intro j v hj
        have hjl := (List.getElem?_eq_some_iff.1 hj).1
        unfold byteRow
        rw [Array.getElem?_append_left (by simp at hjl ⊢; omega)]
        have : (denL φ (b.data.toList.map fun b => Value.int .u8 b.toNat))[j]? = some (den φ v) := by rw [getElem?_denL, hj]; rfl
        rw [den_bytes] at this
        rw [← this]
        simp
      · refine ⟨.value (.slice (some ⟨w.heap.size, 0, none⟩) b.size q), ?_, ok_newSlice _ _ _ _, by rw [den_newSlice]; congr 1; omega⟩
        have hfz := freeze_push (w := { w with drawn := w.drawn + 1 }) (c := byteRow b (q - b.size)) (elem := e0)
        simp only [convert, Sem.run_bind, run_und hC hs, run_und hC hd, Result.andThen_ok, den]
        cases sd <;>
        · simp only [run_und hC he, Sem.run_bind, Result.andThen_ok, Conv.stringToBytes, run_choose, Question.forced, Bool.false_eq_true, if_false, ← hq, newRow, run_newObj, Sem.run_pure, markStringish, run_shape, World.shape?]
          simp only [Array.getElem?_push_size, run_freeze, Result.andThen_ok]
          exact congrArg (Result.ok _) hfz
    · subst hg; trivial
  · rename_i ad len cap
    split at hg
    · rename_i e0
      split at hg
      case h_2 => subst hg; trivial
      rename_i he
      subst hg
      refine .value hr fun v hv => ?_
      have h1 := toStr_sound (P := P) hr hv
      refine ⟨?_, h1.2⟩
      have hcv : (convert src dst (den φ (.slice ad len cap))).run P w = (Conv.bytesToString (den φ (.slice ad len cap))).run P w := by
        cases ad with
        | none => simp only [den]; exact run_convert_bytes_string w src dst e0 none len cap (und_of hC hs) (und_of hC he) (und_of hC hd)
        | some ad => simp only [den]; exact run_convert_bytes_string w src dst e0 _ len _ (und_of hC hs) (und_of hC he) (und_of hC hd)
      simp only [Sem.run_bind, hcv, h1.1, Result.andThen_ok, Sem.run_pure]
    · rename_i e1 e0
      split at hg
      case h_2 => subst hg; trivial
      rename_i he
      subst hg
      exact mark_sound hC hr hs hd he hx
    · subst hg; trivial
  · split at hg
    · subst hg
      refine .value hr fun v hv => ?_
      obtain ⟨h1, h2⟩ := toUnsafe_sound (P := P) hC hr hs hd hx hv
      exact ⟨by simp only [Sem.run_bind, h1, Result.andThen_ok, Sem.run_pure], h2⟩
    · subst hg
      refine .value hr fun v hv => ?_
      obtain ⟨h1, h2⟩ := fromUnsafe_sound (P := P) hC hr hs hd hx hv
      exact ⟨by simp only [Sem.run_bind, h1, Result.andThen_ok, Sem.run_pure], h2⟩
    · subst hg; trivial
  · subst hg; trivial

end
end Go.Eng
