/- The abstract interpreter: iterators, functions without a body, calls. -/
import Derived.Test.YtcceecleljcfbaaGreatDoorEngOpsE
import Derived.Lib.Bytealg
import Derived.Lib.MakeNoZero
import Derived.KernelRfl
namespace Go.Eng
set_option linter.unusedVariables false
set_option linter.unusedSimpArgs false

section
variable {C : Cx} {P : Program} {φ : Phi} {D : Nat → Prop} {s : St} {w : World} {e : E} {a : Act}

theorem utf8_ascii (l : List UInt8) (pos : Nat) (c : UInt8) (h : l[pos]? = some c) (hc : c.toNat < 128) : Utf8.decode ⟨⟨l⟩⟩ pos = (c.toNat, 1) := by
  have hlt := (List.getElem?_eq_some_iff.1 h).1
  have h0 : ((ByteArray.mk ⟨l⟩).get! (pos + 0)).toNat = c.toNat := by
    have : (ByteArray.mk ⟨l⟩).get! (pos + 0) = c := by
      simp only [ByteArray.get!, Nat.add_zero]
      rw [getElem!_pos _ _ (by simpa using hlt)]
      have := (List.getElem?_eq_some_iff.1 h).2
      simpa using this
    rw [this]
  unfold Utf8.decode
  simp only [h0]
  rw [if_pos hc]

theorem den_tup1 (φ : Phi) (b : Bool) : den φ (.tuple #[.bool b]) = .tuple #[.bool b] := by simp [den, denA, denL]
theorem ok_tup1 (D : Nat → Prop) (b : Bool) : Ok D (.tuple #[.bool b]) := by simp [Ok, OkA, OkL]
theorem den_tup3 (φ : Phi) (x y z : Value) : den φ (.tuple #[x, y, z]) = .tuple #[den φ x, den φ y, den φ z] := by simp [den, denA, denL]
theorem ok_tup3 {D : Nat → Prop} {x y z : Value} (h1 : Ok D x) (h2 : Ok D y) (h3 : Ok D z) : Ok D (.tuple #[x, y, z]) := by
  simp only [Ok, OkA, OkL]; exact ⟨h1, h2, h3, trivial⟩

theorem memN_eq (n : Nat) : ∀ (l : List Nat), memN n l = l.contains n
  | [] => rfl
  | a :: r => by
    have e : Nat.beq a n = (n == a) := by
      cases h : Nat.beq a n with
      | true => rw [Nat.eq_of_beq_eq_true h]; simp
      | false => have := Nat.ne_of_beq_eq_false h; simp [Ne.symm this]
    rw [memN, memN_eq n r, List.contains_cons, e]

theorem op_next (hC : CxOk C P) (hr : Rel C φ D s.heap w) {it : Value} {isS : Bool} {t : TypeId} :
    OpOk C φ D s w (nextA it isS s) ((do pure (.value (← Instr.next (den φ it) isS t)) : Sem Next).run P w) := by
  generalize hg : nextA it isS s = res
  unfold nextA at hg
  split at hg
  case h_2 => subst hg; trivial
  rename_i r
  split at hg
  · rename_i l pos hb
    obtain ⟨h0, h1⟩ : (φ r).off = 0 ∧ w.heap[(φ r).block]? = some (.stringIter ⟨⟨l⟩⟩ pos) := hr.blk r _ hb
    have hit : den φ (.pointer (some ⟨r, 0, none⟩)) = .pointer (some ⟨(φ r).block, 0, none⟩) := by simp [den, h0]
    rw [hit]
    replace hg := bool_split hg; rcases hg with ⟨hS, hg⟩ | ⟨_, hg⟩
    case inr => subst hg; trivial
    subst hS
    have hsz : (ByteArray.mk ⟨l⟩).size = l.length := rfl
    split at hg
    · replace hg := bool_split hg; rcases hg with ⟨hle, hg⟩ | ⟨_, hg⟩
      case inr => subst hg; trivial
      rw [ble_iff] at hle
      subst hg
      refine .ok_value hr ?_ (ok_tup1 D false)
      simp only [Instr.next, Sem.run_bind, run_getObj h1 (by intro _ _ _ h; cases h), Result.andThen_ok, hsz]
      rw [if_neg (by omega)]
      simp [den_tup1]
    · rename_i c hc
      replace hg := bool_split hg; rcases hg with ⟨hlt, hg⟩ | ⟨_, hg⟩
      case inr => subst hg; trivial
      rw [blt_iff] at hlt
      rw [nth_eq] at hc
      subst hg
      have hset := hr.setObj (o := .stringIter ⟨⟨l⟩⟩ (pos + 1)) hb rfl rfl rfl (b' := .sIter l (pos + 1)) ⟨h0, setB_same (heap_lt h1)⟩
      refine ⟨φ, D, _, hset.1, hset.2, .inl ⟨rfl, rfl⟩, .value (.tuple #[.bool true, .int .i64 pos, .int .i32 c.toNat]), ?_, ok_tup3 (by simp [Ok]) (by simp [Ok]) (by simp [Ok]), by rw [den_tup3]; simp [den]⟩
      have hpl := (List.getElem?_eq_some_iff.1 hc).1
      simp only [Instr.next, Sem.run_bind, run_getObj h1 (by intro _ _ _ h; cases h), Result.andThen_ok, hsz]
      rw [if_pos hpl]
      simp only [utf8_ascii l pos c hc hlt, Sem.run_bind, run_setObj h1 (by intro _ _ _ h; cases h), Result.andThen_ok, Sem.run_pure, goInt]
  · rename_i since seen last hb
    obtain ⟨_, h0, h1⟩ := hr.blk r _ hb
    have hit : den φ (.pointer (some ⟨r, 0, none⟩)) = .pointer (some ⟨(φ r).block, 0, none⟩) := by simp [den, h0]
    rw [hit]
    replace hg := bool_split hg; rcases hg with ⟨hS, hg⟩ | ⟨hS, hg⟩
    · subst hg; trivial
    subst hS
    subst hg
    refine .ok_value hr ?_ (ok_tup1 D false)
    simp only [Instr.next, Sem.run_bind, run_getObj h1 (by intro _ _ _ h; cases h), Result.andThen_ok]
    simp [den_tup1]
  · rename_i m since seen last hb
    obtain ⟨hmD, h0, h1⟩ := hr.blk r _ hb
    have hit : den φ (.pointer (some ⟨r, 0, none⟩)) = .pointer (some ⟨(φ r).block, 0, none⟩) := by simp [den, h0]
    rw [hit]
    replace hg := bool_split hg; rcases hg with ⟨hS, hg⟩ | ⟨hS, hg⟩
    · subst hg; trivial
    subst hS
    split at hg
    case h_2 => subst hg; trivial
    rename_i es clock hm
    obtain ⟨hes, hm1⟩ := hr.blk m _ hm
    replace hg := bool_split hg; rcases hg with ⟨_, hg⟩ | ⟨hnot, hg⟩
    · subst hg; trivial
    simp only [Option.map_some] at h1
    have hcheck : (!seen.toArray.isEmpty && !(es.map (denE φ)).toArray.isEmpty && (es.map (denE φ)).toArray.all (fun e => decide (e.born ≥ last))) = false := by
      rw [← hnot]
      have e1 : (es.map (denE φ)).toArray.all (fun e => decide (e.born ≥ last)) = es.all (fun e => Nat.ble last e.born) := by
        rw [List.all_toArray, List.all_map]
        congr 1
        funext e
        simp only [Function.comp, denE]
        rw [Bool.eq_iff_iff]; simp [Nat.ble_eq]
      rw [e1]
      cases seen <;> cases es <;> simp
    have hleft : (es.map (denE φ)).toArray.filter (fun e => !seen.toArray.contains e.born) = ((es.filter fun e => !memN e.born seen).map (denE φ)).toArray := by
      rw [List.filter_toArray, List.filter_map]
      congr 3
      funext e
      simp only [Function.comp, denE, List.contains_toArray, memN_eq]
    split at hg
    · rename_i hfil
      subst hg
      refine .ok_value hr ?_ (ok_tup1 D false)
      simp only [Instr.next, Sem.run_bind, run_getObj h1 (by intro _ _ _ h; cases h), Result.andThen_ok, run_getObj hm1 (by intro _ _ _ h; cases h), hcheck, Bool.false_eq_true, if_false, Sem.run_pure, hleft, hfil]
      have hq : (Question.mapNext 1).forced = true := rfl
      simp [den_tup1, hq]
    · rename_i e hfil
      replace hg := bool_split hg; rcases hg with ⟨hlt, hg⟩ | ⟨_, hg⟩
      case inr => subst hg; trivial
      rw [blt_iff] at hlt
      subst hg
      have hmem : e ∈ es := by
        have : e ∈ es.filter fun e => !memN e.born seen := by rw [hfil]; exact List.mem_singleton.2 rfl
        exact (List.mem_filter.1 this).1
      have hset := hr.setObj (o := .mapIter (some (φ m).block) since (seen ++ [e.born]).toArray clock) hb rfl rfl rfl (b' := .mIter (some m) since (seen ++ [e.born]) clock) ⟨fun i hi => hmD i hi, h0, setB_same (heap_lt h1)⟩
      refine ⟨φ, D, _, hset.1, hset.2, .inl ⟨rfl, rfl⟩, .value (.tuple #[.bool true, den φ e.key, den φ e.val]), ?_, ok_tup3 (by simp [Ok]) (hes e hmem).1 (hes e hmem).2, by rw [den_tup3]; simp [den]⟩
      simp only [Instr.next, Sem.run_bind, run_getObj h1 (by intro _ _ _ h; cases h), Result.andThen_ok, run_getObj hm1 (by intro _ _ _ h; cases h), hcheck, Bool.false_eq_true, if_false, Sem.run_pure, hleft, hfil]
      have hq : (Question.mapNext 1).forced = true := rfl
      simp [denE, hlt, hq, run_setObj h1 (by intro _ _ _ h; cases h)]
    · subst hg; trivial
  · subst hg; trivial

theorem entry_sound (hr : Rel C φ D s.heap w) {it v : Value} (h : entryA it s = some v) : (Instr.entry (den φ it)).run P w = .ok (den φ v) w ∧ Ok D v := by
  unfold entryA at h
  split at h
  case h_2 => cases h
  rename_i r
  split at h
  case h_2 => cases h
  rename_i m since seen stepped hb
  split at h
  case h_2 => cases h
  rename_i es clock hm
  replace h := bool_split h; rcases h with ⟨hcl, h⟩ | ⟨_, h⟩
  case inr => cases h
  rw [beq_iff] at hcl
  split at h
  case h_2 => cases h
  rename_i st hst
  split at h
  case h_2 => cases h
  rename_i en hen
  cases h
  obtain ⟨_, h0, h1⟩ := hr.blk r _ hb
  obtain ⟨hes, hm1⟩ := hr.blk m _ hm
  simp only [Option.map_some] at h1
  have hit : den φ (.pointer (some ⟨r, 0, none⟩)) = .pointer (some ⟨(φ r).block, 0, none⟩) := by simp [den, h0]
  have hmem : en ∈ es := List.mem_of_find?_eq_some hen
  have hback : seen.toArray.back? = some st := by rw [← hst, List.back?_toArray]
  have hfind : (es.map (denE φ)).toArray.find? (fun e => e.born == st) = some (denE φ en) := by
    have : (fun e : MapEntry => Nat.beq e.born st) = fun e => e.born == st := by
      funext e
      cases h : Nat.beq e.born st with
      | true => rw [Nat.eq_of_beq_eq_true h]; simp
      | false => have := Nat.ne_of_beq_eq_false h; simp [this]
    rw [this] at hen
    rw [List.find?_toArray, List.find?_map]
    have hf : ((fun e : MapEntry => e.born == st) ∘ denE φ) = fun e => e.born == st := by funext e; rfl
    rw [hf, hen]; rfl
  refine ⟨?_, by simp only [Ok, OkA, OkL]; exact ⟨(hes en hmem).1, (hes en hmem).2, trivial⟩⟩
  rw [hit]
  have hne : (clock != stepped) = false := by simp [hcl]
  simp only [Instr.entry, Sem.run_bind, run_getObj h1 (by intro _ _ _ h; cases h), Result.andThen_ok, hback, run_getObj hm1 (by intro _ _ _ h; cases h), hne, Bool.false_eq_true, if_false, Sem.run_pure, hfind]
  simp [den, denA, denL, denE]

theorem cmpBytes_eq : ∀ (a b : List UInt8), cmpBytes a b = Lib.compareBytes a b
  | [], [] => rfl
  | [], _ :: _ => rfl
  | _ :: _, [] => rfl
  | a :: x, b :: y => by
    simp only [cmpBytes, Lib.compareBytes, cmpBytes_eq x y]
    have h2 : ∀ a b : UInt8, Nat.blt a.toNat b.toNat = decide (a < b) := fun a b => by
      rw [Bool.eq_iff_iff]
      simp only [Nat.blt_eq, decide_eq_true_eq]
      exact UInt8.lt_iff_toNat_lt.symm
    rw [h2, h2]
    by_cases h : a < b
    · simp [h]
    · by_cases h' : b < a
      · simp [h, h']
      · simp [h, h']

theorem run_loadBytes : ∀ (ns : List Int) (b o : Nat) (acc : ByteArray), (∀ j n, ns[j]? = some n → w.cell? ⟨b, o + j, none⟩ = some (.int .u8 n)) →
    (Extern.Bytes.loadBytes ⟨b, o, none⟩ ns.length acc).run P w = .ok ⟨⟨acc.data.toList ++ ns.map fun n => UInt8.ofNat n.toNat⟩⟩ w
  | [], b, o, acc, _ => by simp [Extern.Bytes.loadBytes]
  | n :: r, b, o, acc, h => by
    have h0 := h 0 n rfl
    simp only [List.length_cons, Extern.Bytes.loadBytes, Sem.run_bind, run_load]
    simp only [Nat.add_zero] at h0
    simp only [h0, Result.andThen_ok, addr_add]
    rw [run_loadBytes r b (o + 1) _ (fun j m hj => by rw [show o + 1 + j = o + (j + 1) from by omega]; exact h (j + 1) m (by simpa using hj))]
    simp [ByteArray.push]

theorem bytesOf_sound (hr : Rel C φ D s.heap w) {x : Value} {n : Nat} {l : List Value} {bs : List UInt8} (hs : isSlV x = true) (hrd : rdSlice s 1 x = some (n, l)) (hb : bytesOfCells l = some bs) :
    (Extern.Bytes.bytesOf (den φ x)).run P w = .ok ⟨⟨bs⟩⟩ w := by
  obtain ⟨ns, rfl, rfl⟩ := bytesOf_cells hb
  cases x with
  | slice ad len cap =>
    cases ad with
    | none =>
      unfold rdSlice at hrd
      replace hrd := bool_split hrd; rcases hrd with ⟨_, hrd⟩ | ⟨_, hrd⟩
      · simp only [Option.some.injEq, Prod.mk.injEq] at hrd
        have : ns = [] := by
          have := hrd.2
          cases ns with
          | nil => rfl
          | cons a b => simp at this
        subst this
        simp [den, Extern.Bytes.bytesOf]
        rfl
      · cases hrd
    | some ad =>
      obtain ⟨b, o, sp⟩ := ad
      cases sp with
      | some k =>
        unfold rdSlice at hrd
        simp only at hrd
        cases hb : Nat.beq len 0 with
        | false => rw [hb] at hrd; cases hrd
        | true =>
          rw [hb] at hrd
          simp only [cond_true, Option.some.injEq, Prod.mk.injEq] at hrd
          have h0 := Nat.eq_of_beq_eq_true hb
          have hns : ns = [] := by
            have := congrArg List.length hrd.2
            simp at this
            exact List.length_eq_zero_iff.1 this.symm
          subst h0 hns
          simp only [den, Extern.Bytes.bytesOf]
          rfl
      | none =>
      unfold rdSlice at hrd
      simp only at hrd
      split at hrd
      case h_2 => cases hrd
      rename_i vs elem st par hbk
      split at hrd
      case h_2 => cases hrd
      rename_i l' hl
      simp only [Option.some.injEq, Prod.mk.injEq] at hrd
      obtain ⟨rfl, rfl⟩ := hrd
      obtain ⟨ho, c, fr, sz, h1, h2, h3, h4, h5, h6⟩ := hr.blk b _ hbk
      rw [dropN_eq, Nat.mul_one] at hl
      obtain ⟨hlen, hl'⟩ := (takeN_some _ _ _).1 hl
      have hnl : ns.length = len := by
        have := congrArg List.length hl'
        simp at this hlen
        omega
      rw [den_slice]
      simp only [Extern.Bytes.bytesOf]
      have := run_loadBytes (P := P) (w := w) ns (φ b).block ((φ b).off + o) ByteArray.empty (fun j n hj => by
        rw [cell_of h1]
        have hj' : (ns.map (Value.int .u8))[j]? = some (.int .u8 n) := by simp [hj]
        have hjl := (List.getElem?_eq_some_iff.1 hj).1
        rw [hl', List.getElem?_take_of_lt (by omega), List.getElem?_drop] at hj'
        have := h4 _ _ hj'
        rw [Nat.add_assoc, this]
        simp [den])
      rw [hnl] at this
      rw [this]
      simp
  | _ => simp [isSlV] at hs

theorem row_next : Extern.allNextRows.lookup "internal/bytealg.Compare" = none ∧ Extern.allNextRows.lookup "internal/bytealg.IndexByte" = none ∧ Extern.allNextRows.lookup "internal/bytealg.IndexByteString" = none ∧
    Extern.allNextRows.lookup "internal/abi.NoEscape" = none ∧ Extern.allNextRows.lookup "" = none := ⟨by kernel_rfl, by kernel_rfl, by kernel_rfl, by kernel_rfl, by kernel_rfl⟩
theorem row_generic : Extern.allGenericRows.lookup "internal/bytealg.Compare" = none ∧ Extern.allGenericRows.lookup "internal/bytealg.IndexByte" = none ∧ Extern.allGenericRows.lookup "internal/bytealg.IndexByteString" = none ∧
    Extern.allGenericRows.lookup "internal/abi.NoEscape" = none := ⟨by kernel_rfl, by kernel_rfl, by kernel_rfl, by kernel_rfl⟩
theorem row_typed : Extern.allTypedRows.lookup "internal/bytealg.Compare" = none ∧ Extern.allTypedRows.lookup "internal/bytealg.IndexByte" = none ∧ Extern.allTypedRows.lookup "internal/bytealg.IndexByteString" = none ∧
    Extern.allTypedRows.lookup "internal/abi.NoEscape" = none := ⟨by kernel_rfl, by kernel_rfl, by kernel_rfl, by kernel_rfl⟩
theorem row_rows : Extern.allRows.lookup "internal/bytealg.Compare" = some Extern.BytealgCompare.compare ∧ Extern.allRows.lookup "internal/bytealg.IndexByte" = some Extern.BytealgIndexByte.indexByte ∧
    Extern.allRows.lookup "internal/bytealg.IndexByteString" = some Extern.BytealgIndexByte.indexByte ∧ Extern.allRows.lookup "internal/abi.NoEscape" = some Extern.AbiNoEscape.same := ⟨by kernel_rfl, by kernel_rfl, by kernel_rfl, by kernel_rfl⟩

theorem row_find {fn : Func} (ho : fn.origin = "") {n : String} (hn : fn.name = n) {e : Array Value → Sem Value} (h1 : Extern.allNextRows.lookup n = none) (h2 : Extern.allGenericRows.lookup n = none)
    (h3 : Extern.allTypedRows.lookup n = none) (h4 : Extern.allRows.lookup n = some e) : Extern.findNext fn = none ∧ Extern.find fn = some e := by
  constructor
  · unfold Extern.findNext
    simp only [hn, ho, h1, row_next.2.2.2.2]
    rfl
  · unfold Extern.find
    simp only [hn, ho, h2, h3, h4]
    rfl

theorem bytesA_sound (hr : Rel C φ D s.heap w) {x : Value} {bs : List UInt8} (h : bytesA s x = some bs) : (Extern.Bytes.bytesOf (den φ x)).run P w = .ok ⟨⟨bs⟩⟩ w := by
  unfold bytesA at h
  split at h
  · rename_i b
    cases h
    simp only [den, Extern.Bytes.bytesOf, Sem.run_pure]
  · rename_i x hx
    replace h := bool_split h; rcases h with ⟨hs, h⟩ | ⟨_, h⟩
    case inr => cases h
    split at h
    case h_2 => cases h
    rename_i n l hrd
    exact bytesOf_sound hr hs hrd h

theorem indexByte_find (c : Nat) (hc : c < 256) : ∀ (l pre : List UInt8),
    (match (List.range' pre.length l.length).find? (fun i => (ByteArray.mk ⟨pre ++ l⟩)[i]! == UInt8.ofNat c) with
      | some i => (i : Int)
      | none => -1) = indexByteA c l pre.length
  | [], pre => by simp [indexByteA]
  | b :: r, pre => by
    have hsz : (ByteArray.mk ⟨pre ++ b :: r⟩).size = (pre ++ b :: r).length := rfl
    have hg : (ByteArray.mk ⟨pre ++ b :: r⟩)[pre.length]! = b := by
      rw [getElem!_pos _ _ (by rw [hsz]; simp)]
      show (pre ++ b :: r)[pre.length]'(by simp) = b
      simp
    simp only [List.length_cons, List.range'_succ, List.find?_cons, hg]
    have e : (b == UInt8.ofNat c) = Nat.beq b.toNat c := by
      cases h : Nat.beq b.toNat c with
      | true => rw [← Nat.eq_of_beq_eq_true h]; simp
      | false =>
        have := Nat.ne_of_beq_eq_false h
        rw [beq_eq_false_iff_ne]
        intro e; apply this; rw [e]; simp; omega
    rw [e]
    unfold indexByteA
    cases Nat.beq b.toNat c with
    | true => rfl
    | false =>
      have := indexByte_find c hc r (pre ++ [b])
      simp only [List.length_append, List.length_cons, List.length_nil, List.append_assoc, List.singleton_append] at this
      simpa using this

theorem indexByte_sound (hr : Rel C φ D s.heap w) {a b : Value} {l : List UInt8} {c : Nat} (h1 : bytesA s a = some l) (h2 : byteA b = some c) :
    (Extern.BytealgIndexByte.indexByte (denL φ [a, b]).toArray).run P w = .ok (den φ (.int .i64 (indexByteA c l 0))) w := by
  unfold byteA at h2
  split at h2
  case h_2 => cases h2
  rename_i m
  replace h2 := bool_split h2; rcases h2 with ⟨hc, h2⟩ | ⟨_, h2⟩
  case inr => cases h2
  cases h2
  rw [blt_iff] at hc
  have hb : (Extern.Bytes.asByte (den φ (.int .u8 (Int.ofNat c)))).run P w = .ok (UInt8.ofNat c) w := by
    simp [den, Extern.Bytes.asByte]
  have hf := indexByte_find c hc l []
  simp only [List.nil_append, List.length_nil] at hf
  change Sem.run P (do
    let b ← Extern.Bytes.bytesOf (den φ a)
    let c ← Extern.Bytes.asByte (den φ (.int .u8 (Int.ofNat c)))
    match (List.range b.size).find? fun i => b[i]! == c with
    | some i => pure (goInt i)
    | none => pure (goInt (-1))) w = _
  simp only [Sem.run_bind, bytesA_sound hr h1, hb, Result.andThen_ok]
  have hsz : (ByteArray.mk ⟨l⟩).size = l.length := rfl
  rw [← hf, List.range_eq_range', hsz]
  cases (List.range' 0 l.length).find? (fun i => (ByteArray.mk ⟨l⟩)[i]! == UInt8.ofNat c) with
  | some i => simp [goInt, den]
  | none => simp [goInt, den]

theorem countA_count (c : Nat) (hc : c < 256) : ∀ (l : List UInt8) (n : Nat), countA c l n = n + Lib.countByte l (UInt8.ofNat c)
  | [], n => by simp [countA, Lib.countByte]
  | b :: r, n => by
    have e : (b == UInt8.ofNat c) = Nat.beq b.toNat c := by
      cases h : Nat.beq b.toNat c with
      | true => rw [← Nat.eq_of_beq_eq_true h]; simp
      | false =>
        have := Nat.ne_of_beq_eq_false h
        rw [beq_eq_false_iff_ne]
        intro e; apply this; rw [e]; simp; omega
    unfold countA
    rw [countA_count c hc r]
    unfold Lib.countByte
    rw [List.count_cons, e]
    cases Nat.beq b.toNat c <;> simp <;> omega

theorem count_rows : Extern.allNextRows.lookup "internal/bytealg.Count" = none ∧ Extern.allNextRows.lookup "internal/bytealg.CountString" = none ∧ Extern.allGenericRows.lookup "internal/bytealg.Count" = none ∧
    Extern.allGenericRows.lookup "internal/bytealg.CountString" = none ∧ Extern.allTypedRows.lookup "internal/bytealg.Count" = none ∧ Extern.allTypedRows.lookup "internal/bytealg.CountString" = none ∧
    Extern.allRows.lookup "internal/bytealg.Count" = some Extern.BytealgCount.count ∧ Extern.allRows.lookup "internal/bytealg.CountString" = some Extern.BytealgCount.count :=
  ⟨by kernel_rfl, by kernel_rfl, by kernel_rfl, by kernel_rfl, by kernel_rfl, by kernel_rfl, by kernel_rfl, by kernel_rfl⟩

theorem count_sound (hr : Rel C φ D s.heap w) {a b : Value} {l : List UInt8} {c : Nat} (h1 : bytesA s a = some l) (h2 : byteA b = some c) :
    (Extern.BytealgCount.count (denL φ [a, b]).toArray).run P w = .ok (den φ (.int .i64 (Int.ofNat (countA c l 0)))) w := by
  unfold byteA at h2
  split at h2
  case h_2 => cases h2
  rename_i m
  replace h2 := bool_split h2; rcases h2 with ⟨hc, h2⟩ | ⟨_, h2⟩
  case inr => cases h2
  cases h2
  rw [blt_iff] at hc
  have hb : (Extern.Bytes.asByte (den φ (.int .u8 (Int.ofNat c)))).run P w = .ok (UInt8.ofNat c) w := by
    simp [den, Extern.Bytes.asByte]
  change Sem.run P (do
    let b ← Extern.Bytes.bytesOf (den φ a)
    let c ← Extern.Bytes.asByte (den φ (.int .u8 (Int.ofNat c)))
    pure (goInt (b.foldl (fun n x => if x == c then n + 1 else n) (0 : Nat)))) w = _
  simp only [Sem.run_bind, bytesA_sound hr h1, hb, Result.andThen_ok, Sem.run_pure]
  rw [Lib.foldl_data, Lib.count_foldl, countA_count c hc]
  simp [goInt, den]

theorem extern_sound (hr : Rel C φ D s.heap w) {fn : Func} {args : List Value} {v : Value} (hok : OkL D args) (h : externV s fn.name fn.origin args = some v) :
    ∃ e, Extern.findNext fn = none ∧ Extern.find fn = some e ∧ (e (denL φ args).toArray).run P w = .ok (den φ v) w ∧ Ok D v ∧ (fn.name == "runtime.NumGoroutine") = false := by
  unfold externV at h
  replace h := bool_split h; rcases h with ⟨ho, h⟩ | ⟨_, h⟩
  case inr => cases h
  rw [beq_iff_eq] at ho
  replace h := bool_split h; rcases h with ⟨hn, h⟩ | ⟨_, h⟩
  · rw [beq_iff_eq] at hn
    obtain ⟨f1, f2⟩ := row_find ho hn row_next.2.2.2.1 row_generic.2.2.2 row_typed.2.2.2 row_rows.2.2.2
    split at h
    case h_2 => cases h
    cases h
    exact ⟨_, f1, f2, rfl, hok.1, by rw [hn]; rfl⟩
  replace h := bool_split h; rcases h with ⟨hn, h⟩ | ⟨_, h⟩
  · split at h
    case h_2 => cases h
    split at h
    case h_2 => cases h
    rename_i hl hc
    cases h
    have hs := indexByte_sound (P := P) hr hl hc
    rw [Bool.or_eq_true, beq_iff_eq, beq_iff_eq] at hn
    rcases hn with hn | hn
    · obtain ⟨f1, f2⟩ := row_find ho hn row_next.2.1 row_generic.2.1 row_typed.2.1 row_rows.2.1
      exact ⟨_, f1, f2, hs, by simp [Ok], by rw [hn]; rfl⟩
    · obtain ⟨f1, f2⟩ := row_find ho hn row_next.2.2.1 row_generic.2.2.1 row_typed.2.2.1 row_rows.2.2.1
      exact ⟨_, f1, f2, hs, by simp [Ok], by rw [hn]; rfl⟩
  replace h := bool_split h; rcases h with ⟨hn, h⟩ | ⟨_, h⟩
  · split at h
    case h_2 => cases h
    split at h
    case h_2 => cases h
    rename_i hl hc
    cases h
    have hs := count_sound (P := P) hr hl hc
    obtain ⟨c1, c2, c3, c4, c5, c6, c7, c8⟩ := count_rows
    rw [Bool.or_eq_true, beq_iff_eq, beq_iff_eq] at hn
    rcases hn with hn | hn
    · obtain ⟨f1, f2⟩ := row_find ho hn c1 c3 c5 c7
      exact ⟨_, f1, f2, hs, by simp [Ok], by rw [hn]; rfl⟩
    · obtain ⟨f1, f2⟩ := row_find ho hn c2 c4 c6 c8
      exact ⟨_, f1, f2, hs, by simp [Ok], by rw [hn]; rfl⟩
  replace h := bool_split h; rcases h with ⟨hn, h⟩ | ⟨_, h⟩
  case inr => cases h
  rw [beq_iff_eq] at hn
  split at h
  case h_2 => cases h
  rename_i x y
  replace h := bool_split h; rcases h with ⟨hc, h⟩ | ⟨_, h⟩
  case inr => cases h
  rw [Bool.and_eq_true] at hc
  obtain ⟨hx, hy⟩ := hc
  split at h
  case h_2 => cases h
  rename_i n1 l1 n2 l2 hr1 hr2
  split at h
  case h_2 => cases h
  rename_i b1 b2 hb1 hb2
  cases h
  obtain ⟨f1, f2⟩ := row_find ho hn row_next.1 row_generic.1 row_typed.1 row_rows.1
  refine ⟨_, f1, f2, ?_, by simp [Ok], by rw [hn]; rfl⟩
  change Sem.run P (do pure (goInt (Extern.BytealgCompare.cmp (← Extern.Bytes.bytesOf (den φ x)) (← Extern.Bytes.bytesOf (den φ y))))) w = _
  simp only [Sem.run_bind, bytesOf_sound hr hx hr1 hb1, bytesOf_sound hr hy hr2 hb2, Result.andThen_ok, Sem.run_pure, Lib.cmp_eq, ← cmpBytes_eq, goInt, den]

theorem nozero_next : Extern.allNextRows.lookup "internal/bytealg.MakeNoZero" = none := by kernel_rfl
theorem nozero_generic : Extern.allGenericRows.lookup "internal/bytealg.MakeNoZero" = none := by kernel_rfl
theorem nozero_typed : Extern.allTypedRows.lookup "internal/bytealg.MakeNoZero" = some Extern.BytealgMakeNoZero.makeNoZero := by kernel_rfl

theorem makeNoZero_sound (hC : CxOk C P) (hr : Rel C φ D s.heap w) (hnD : ¬ D s.next) {f : FuncId} {fn : Func} {args : List Value} (hf : P.funcs[f]? = some fn) (hb : fn.body = none) :
    OpOk C φ D s w (makeNoZeroA C fn args s) ((callFunc f (denL φ args).toArray).run P w) := by
  generalize hg : makeNoZeroA C fn args s = res
  unfold makeNoZeroA at hg
  replace hg := bool_split hg; rcases hg with ⟨hc, hg⟩ | ⟨_, hg⟩
  case inr => subst hg; trivial
  simp only [Bool.and_eq_true, beq_iff_eq] at hc
  obtain ⟨ho, hn⟩ := hc
  split at hg
  case h_2 => subst hg; trivial
  rename_i n t hrt
  split at hg
  case h_2 => subst hg; trivial
  rename_i elem hu
  split at hg
  case h_2 => subst hg; trivial
  rename_i hsz
  replace hg := bool_split hg; rcases hg with ⟨hle, hg⟩ | ⟨_, hg⟩
  case inr => subst hg; trivial
  rw [ble_iff] at hle
  subst hg
  obtain ⟨cs, hrun, hcs, _⟩ := Lib.run_makeNoZero (P := P) w fn.params t elem (und_of hC hu) n hle
  have h1 : Extern.findNext fn = none := by
    unfold Extern.findNext
    simp only [hn, ho, nozero_next, row_next.2.2.2.2]
    rfl
  have h2 : Extern.find fn = some (Extern.BytealgMakeNoZero.makeNoZero fn.params fn.resultTypes) := by
    unfold Extern.find
    simp only [hn, ho, nozero_generic, nozero_typed]
    rfl
  have hname : (fn.name == "runtime.NumGoroutine") = false := by rw [hn]; rfl
  have hrt' : fn.resultTypes = #[t] := by
    apply Array.ext'
    simpa using hrt
  refine After.cells (w' := w.drew.drew.alloc (.cells cs elem)) (c := cs) (fr := (0, 0)) (sl := cs.size) (sz := 1) hr hnD rfl rfl rfl rfl (vs := []) (by simp [OkL]) hsz (by simp) (fun j v hj => by simp at hj) (.inl rfl) ?_
  refine ⟨.value (.slice (some ⟨w.heap.size, 0, none⟩) n cs.size), ?_, ok_newSlice _ _ _ _, ?_⟩
  · have : (denL φ [.int .i64 (Int.ofNat n)]).toArray = #[.int .i64 n] := by simp [denL, den]
    rw [this]
    simp only [callFunc, Sem.run_bind, run_program, Result.andThen_ok, hf, hname, Bool.false_eq_true, if_false, hb, Option.isNone_none, if_true, run_mark, h1, h2, hrt', hrun, Sem.run_pure]
  · have := den_newSlice φ s.next w.heap.size cs.size n 0
    simp only [Nat.mul_zero, Nat.zero_add] at this
    exact this.symm

theorem callFunc_sound (hC : CxOk C P) (hr : Rel C φ D s.heap w) (hnD : ¬ D s.next) {f : FuncId} {args : List Value} (hok : OkL D args) :
    OpOk C φ D s w (callFuncA C f args s) ((callFunc f (denL φ args).toArray).run P w) := by
  unfold callFuncA
  split
  case h_2 => trivial
  rename_i fn hfn
  have hf := hC.func f fn hfn
  split
  · rename_i c hb
    refine After.same hr ⟨.enter f (denL φ args).toArray, ?_, rfl, hok, rfl⟩
    have hname := hC.name f fn hfn (by simp [hb])
    simp only [callFunc, Sem.run_bind, run_program, Result.andThen_ok, hf, hname, Bool.false_eq_true, if_false, hb, Option.isNone_some, Sem.run_pure]
  · rename_i hb
    cases hmz : fn.name == "internal/bytealg.MakeNoZero" with
    | true => exact makeNoZero_sound hC hr hnD hf hb
    | false =>
    simp only [cond_false]
    unfold externA ovalue
    split
    case h_2 => trivial
    rename_i v hx
    obtain ⟨e, h1, h2, h3, h4, hname⟩ := extern_sound (P := P) hr hok hx
    refine .ok_value hr ?_ h4
    simp only [callFunc, Sem.run_bind, run_program, Result.andThen_ok, hf, hname, Bool.false_eq_true, if_false, hb, Option.isNone_none, if_true, run_mark, h1, h2, h3, Sem.run_pure]

end
end Go.Eng
