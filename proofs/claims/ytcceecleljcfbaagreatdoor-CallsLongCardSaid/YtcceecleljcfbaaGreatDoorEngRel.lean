/- The abstract interpreter: what its values and blocks say of the machine's memory. -/
import Derived.Test.YtcceecleljcfbaaGreatDoorEngDef
import Derived.Laws.Sem
import Derived.Below
namespace Go.Eng
set_option linter.unusedVariables false
set_option linter.unusedSimpArgs false

/-! ### the tree -/
theorem key_eq {α : Type} (f : Nat → α) (n : Nat) : key f n = f n := by cases n <;> rfl
theorem Cx.und_eq (C : Cx) (t : TypeId) : C.und t = und0 C t := key_eq _ _
theorem Cx.size_eq (C : Cx) (t : TypeId) : C.size t = size0 C t := key_eq _ _
theorem Cx.zero_eq (C : Cx) (t : TypeId) : C.zero t = zero0 C t := key_eq _ _
theorem T.get_nil {α : Type} (n : Nat) : (T.nil : T α).get n = none := by cases n <;> rfl
theorem boolRec {α : Type} (a b : α) (c : Bool) : Bool.rec (motive := fun _ => α) a b c = bif c then b else a := by cases c <;> rfl
theorem T.get_zero {α : Type} (l r : T α) (v : Option α) : (T.node l v r).get 0 = v := rfl
theorem T.get_succ {α : Type} (l r : T α) (v : Option α) (m : Nat) : (T.node l v r).get (m + 1) = bif Nat.beq (m % 2) 0 then l.get (m / 2) else r.get (m / 2) :=
  by rw [← boolRec]; rfl
theorem T.put_succ {α : Type} (a : Option α) (f : Nat) (t : T α) (k : Nat) : T.put a (f + 1) t (k + 1) =
    bif Nat.beq (k % 2) 0 then T.node (T.put a f t.left (k / 2)) t.here t.right else T.node t.left t.here (T.put a f t.right (k / 2)) :=
  by rw [← boolRec]; rfl
theorem T.get_node {α : Type} (l r : T α) (v : Option α) (n : Nat) :
    (T.node l v r).get n = match n with | 0 => v | m + 1 => if m % 2 = 0 then l.get (m / 2) else r.get (m / 2) := by
  cases n with
  | zero => rfl
  | succ m =>
    rw [T.get_succ]
    by_cases h : m % 2 = 0
    · simp [h]
    · have : Nat.beq (m % 2) 0 = false := by
        cases hb : Nat.beq (m % 2) 0 with
        | false => rfl
        | true => exact absurd (Nat.eq_of_beq_eq_true hb) h
      simp [h, this]
theorem T.eta {α : Type} (t : T α) (n : Nat) : (T.node t.left t.here t.right).get n = t.get n := by
  cases t with
  | nil => rw [T.get_node, T.get_nil]; cases n with
    | zero => rfl
    | succ m => simp [T.left, T.right, T.get_nil]
  | node l v r => rfl

theorem T.get_put {α : Type} (a : Option α) : ∀ (f : Nat) (t : T α) (n m : Nat), n < f → (T.put a f t n).get m = if m = n then a else t.get m := by
  intro f
  induction f with
  | zero => intro t n m h; omega
  | succ f ih =>
    intro t n m h
    rw [← T.eta t m]
    cases n with
    | zero =>
      show (T.node t.left a t.right).get m = _
      rw [T.get_node, T.get_node]
      cases m <;> simp
    | succ k =>
      rw [T.put_succ]
      by_cases hk : k % 2 = 0
      · rw [show Nat.beq (k % 2) 0 = true from by rw [hk]; rfl]
        simp only [cond_true]
        rw [T.get_node, T.get_node]
        cases m with
        | zero => simp
        | succ j =>
          simp only
          by_cases hj : j % 2 = 0
          · rw [if_pos hj, if_pos hj, ih _ _ _ (by omega)]
            by_cases e : j = k
            · subst e; simp
            · rw [if_neg (by omega), if_neg (by omega)]
          · rw [if_neg hj, if_neg hj, if_neg (by omega)]
      · have hb : Nat.beq (k % 2) 0 = false := by
          cases hb : Nat.beq (k % 2) 0 with
          | false => rfl
          | true => exact absurd (Nat.eq_of_beq_eq_true hb) hk
        simp only [hb, cond_false]
        rw [T.get_node, T.get_node]
        cases m with
        | zero => simp
        | succ j =>
          simp only
          by_cases hj : j % 2 = 0
          · rw [if_pos hj, if_pos hj, if_neg (by omega)]
          · rw [if_neg hj, if_neg hj, ih _ _ _ (by omega)]
            by_cases e : j = k
            · subst e; simp
            · rw [if_neg (by omega), if_neg (by omega)]

theorem T.get_set {α : Type} (t : T α) (n m : Nat) (a : α) : (t.set n a).get m = if m = n then some a else t.get m :=
  T.get_put _ _ _ _ _ (by omega)
theorem T.get_del {α : Type} (t : T α) (n m : Nat) : (t.del n).get m = if m = n then none else t.get m :=
  T.get_put _ _ _ _ _ (by omega)

/-! ### where a block lies -/
structure Pl where
  block : Nat
  off : Nat
  slack : Nat

abbrev Phi := Nat → Pl

def denFn (φ : Phi) : Fn → Fn
  | .yield l => .yield (φ l).block
  | f => f

/-- How much further an open end lies. -/
def spotOf (φ : Phi) (a : Addr) : Nat :=
  match a.spot with
  | none => 0
  | some k => if (φ a.block).slack = 0 then 0 else k

@[simp] theorem spotOf_none (φ : Phi) (b o : Nat) : spotOf φ ⟨b, o, none⟩ = 0 := rfl

mutual
def den (φ : Phi) : Value → Value
  | .pointer (some a) => .pointer (some ⟨(φ a.block).block, (φ a.block).off + a.off, none⟩)
  | .slice (some a) l c => .slice (some ⟨(φ a.block).block, (φ a.block).off + a.off + spotOf φ a, none⟩) l (c / 2 + c % 2 * (φ a.block).slack)
  | .map (some b) => .map (some (φ b).block)
  | .chan (some b) => .chan (some (φ b).block)
  | .func fn f c => .func (denFn φ fn) (denA φ f) (denA φ c)
  | .iface t v => .iface t (den φ v)
  | .agg cs => .agg (denA φ cs)
  | .tuple cs => .tuple (denA φ cs)
  | .bool b => .bool b
  | .int k n => .int k n
  | .float k b => .float k b
  | .complex k a b => .complex k a b
  | .string s => .string s
  | .pointer none => .pointer none
  | .slice none l c => .slice none l c
  | .map none => .map none
  | .chan none => .chan none
  | .nilFunc => .nilFunc
  | .nilIface => .nilIface
def denA (φ : Phi) : Array Value → Array Value
  | ⟨l⟩ => ⟨denL φ l⟩
def denL (φ : Phi) : List Value → List Value
  | [] => []
  | v :: r => den φ v :: denL φ r
end

def okFn (D : Nat → Prop) : Fn → Prop
  | .yield l => D l
  | .func _ => True
  | .method _ => True
  | _ => True

mutual
/-- The addresses in a value are of blocks that have been made. -/
def Ok (D : Nat → Prop) : Value → Prop
  | .pointer (some a) => a.spot = none ∧ D a.block
  | .slice (some a) _ _ => True ∧ D a.block
  | .map (some b) => D b
  | .chan (some b) => D b
  | .func fn f c => okFn D fn ∧ OkA D f ∧ OkA D c
  | .iface _ v => Ok D v
  | .agg cs => OkA D cs
  | .tuple cs => OkA D cs
  | _ => True
def OkA (D : Nat → Prop) : Array Value → Prop
  | ⟨l⟩ => OkL D l
def OkL (D : Nat → Prop) : List Value → Prop
  | [] => True
  | v :: r => Ok D v ∧ OkL D r
end

theorem denL_map (φ : Phi) (l : List Value) : denL φ l = l.map (den φ) := by
  induction l with
  | nil => simp [denL]
  | cons v r ih => simp [denL, ih]
theorem denA_map (φ : Phi) (a : Array Value) : denA φ a = a.map (den φ) := by
  cases a with
  | mk l => simp [denA, denL_map]
theorem OkL_iff (D : Nat → Prop) (l : List Value) : OkL D l ↔ ∀ v ∈ l, Ok D v := by
  induction l with
  | nil => simp [OkL]
  | cons v r ih => simp [OkL, ih]
theorem OkA_iff (D : Nat → Prop) (a : Array Value) : OkA D a ↔ ∀ v ∈ a.toList, Ok D v := by
  cases a with
  | mk l => simp [OkA, OkL_iff]

mutual
theorem den_congr {φ ψ : Phi} {D : Nat → Prop} (h : ∀ i, D i → φ i = ψ i) : ∀ (v : Value), Ok D v → den φ v = den ψ v
  | .pointer (some a), hv => by simp only [Ok] at hv; simp only [den, h _ hv.2]
  | .slice (some a) _ _, hv => by simp only [Ok] at hv; simp only [den, spotOf, h _ hv.2]
  | .map (some b), hv => by simp only [Ok] at hv; simp only [den, h _ hv]
  | .chan (some b), hv => by simp only [Ok] at hv; simp only [den, h _ hv]
  | .func fn f c, hv => by
    simp only [Ok] at hv
    have hf : denFn φ fn = denFn ψ fn := by cases fn <;> simp only [okFn] at hv <;> simp [denFn]; rw [h _ hv.1]
    simp only [den, hf, denA_congr h f hv.2.1, denA_congr h c hv.2.2]
  | .iface _ v, hv => by simp only [Ok] at hv; simp only [den, den_congr h v hv]
  | .agg cs, hv => by simp only [Ok] at hv; simp only [den, denA_congr h cs hv]
  | .tuple cs, hv => by simp only [Ok] at hv; simp only [den, denA_congr h cs hv]
  | .bool _, _ | .int _ _, _ | .float _ _, _ | .complex _ _ _, _ | .string _, _ | .pointer none, _ | .slice none _ _, _ | .map none, _ | .chan none, _ | .nilFunc, _ | .nilIface, _ => by simp only [den]
theorem denA_congr {φ ψ : Phi} {D : Nat → Prop} (h : ∀ i, D i → φ i = ψ i) : ∀ (a : Array Value), OkA D a → denA φ a = denA ψ a
  | ⟨l⟩, hv => by simp only [OkA] at hv; simp only [denA, denL_congr h l hv]
theorem denL_congr {φ ψ : Phi} {D : Nat → Prop} (h : ∀ i, D i → φ i = ψ i) : ∀ (l : List Value), OkL D l → denL φ l = denL ψ l
  | [], _ => by simp only [denL]
  | v :: r, hv => by simp only [OkL] at hv; simp only [denL, den_congr h v hv.1, denL_congr h r hv.2]
end

mutual
theorem Ok.mono {D D' : Nat → Prop} (h : ∀ i, D i → D' i) : ∀ (v : Value), Ok D v → Ok D' v
  | .pointer (some a), hv => by simp only [Ok] at hv ⊢; exact ⟨hv.1, h _ hv.2⟩
  | .slice (some a) _ _, hv => by simp only [Ok] at hv ⊢; exact ⟨hv.1, h _ hv.2⟩
  | .map (some b), hv => by simp only [Ok] at hv ⊢; exact h _ hv
  | .chan (some b), hv => by simp only [Ok] at hv ⊢; exact h _ hv
  | .func fn f c, hv => by
    simp only [Ok] at hv ⊢
    refine ⟨?_, OkA.mono h f hv.2.1, OkA.mono h c hv.2.2⟩
    cases fn <;> simp only [okFn] at hv ⊢; exact h _ hv.1
  | .iface _ v, hv => by simp only [Ok] at hv ⊢; exact Ok.mono h v hv
  | .agg cs, hv => by simp only [Ok] at hv ⊢; exact OkA.mono h cs hv
  | .tuple cs, hv => by simp only [Ok] at hv ⊢; exact OkA.mono h cs hv
  | .bool _, _ | .int _ _, _ | .float _ _, _ | .complex _ _ _, _ | .string _, _ | .pointer none, _ | .slice none _ _, _ | .map none, _ | .chan none, _ | .nilFunc, _ | .nilIface, _ => by simp only [Ok]
theorem OkA.mono {D D' : Nat → Prop} (h : ∀ i, D i → D' i) : ∀ (a : Array Value), OkA D a → OkA D' a
  | ⟨l⟩, hv => by simp only [OkA] at hv ⊢; exact OkL.mono h l hv
theorem OkL.mono {D D' : Nat → Prop} (h : ∀ i, D i → D' i) : ∀ (l : List Value), OkL D l → OkL D' l
  | [], _ => by simp only [OkL]
  | v :: r, hv => by simp only [OkL] at hv ⊢; exact ⟨Ok.mono h v hv.1, OkL.mono h r hv.2⟩
end

mutual
theorem closed_den (φ : Phi) (D : Nat → Prop) : ∀ (v : Value), closedB v = true → den φ v = v ∧ Ok D v
  | .func (.func _) f c, hv => by
    simp only [closedB, Bool.and_eq_true] at hv
    have h1 := closed_denA φ D f hv.1
    have h2 := closed_denA φ D c hv.2
    simp only [den, denFn, Ok, okFn, h1.1, h2.1]
    exact ⟨trivial, trivial, h1.2, h2.2⟩
  | .iface _ v, hv => by
    simp only [closedB] at hv
    have h1 := closed_den φ D v hv
    simp only [den, Ok, h1.1]; exact ⟨trivial, h1.2⟩
  | .agg cs, hv => by
    simp only [closedB] at hv
    have h1 := closed_denA φ D cs hv
    simp only [den, Ok, h1.1]; exact ⟨trivial, h1.2⟩
  | .tuple cs, hv => by
    simp only [closedB] at hv
    have h1 := closed_denA φ D cs hv
    simp only [den, Ok, h1.1]; exact ⟨trivial, h1.2⟩
  | .bool _, _ | .int _ _, _ | .float _ _, _ | .complex _ _ _, _ | .string _, _ | .pointer none, _ | .slice none _ _, _ | .map none, _ | .chan none, _ | .nilFunc, _ | .nilIface, _ => by simp only [den, Ok]; exact ⟨trivial, trivial⟩
  | .pointer (some _), hv | .slice (some _) _ _, hv | .map (some _), hv | .chan (some _), hv
  | .func (.method _) _ _, hv | .func (.methodOf _ _) _ _, hv | .func (.via _ _ _ _) _ _, hv | .func (.yield _) _ _, hv => by simp [closedB] at hv
theorem closed_denA (φ : Phi) (D : Nat → Prop) : ∀ (a : Array Value), closedA a = true → denA φ a = a ∧ OkA D a
  | ⟨l⟩, hv => by
    simp only [closedA] at hv
    have h1 := closed_denL φ D l hv
    simp only [denA, OkA, h1.1]; exact ⟨trivial, h1.2⟩
theorem closed_denL (φ : Phi) (D : Nat → Prop) : ∀ (l : List Value), closedL l = true → denL φ l = l ∧ OkL D l
  | [], _ => by simp only [denL, OkL]; exact ⟨trivial, trivial⟩
  | v :: r, hv => by
    simp only [closedL, Bool.and_eq_true] at hv
    have h1 := closed_den φ D v hv.1
    have h2 := closed_denL φ D r hv.2
    simp only [denL, OkL, h1.1, h2.1]; exact ⟨trivial, h1.2, h2.2⟩
end

end Go.Eng
