/- Part K1: Sl, Cx, Cm, Cc, Co, Cd, Ce. -/
import Derived.Calls
import Derived.Below
import Derived.Tactics
import Derived.Laws.Rows
import Derived.Laws.Tables
import Derived.Laws.Entries
import Derived.Laws.Bits
import Derived.Laws.AppendOwn
import Derived.Laws.MakeOwn
import Derived.Laws.OwnMore
import Derived.Maps.AppendAt
import Derived.OwnWalk
import Derived.OrdersHeld
import Derived.Deep.RegionHeld3
import Derived.ChangeKeysEq
set_option linter.unusedVariables false
set_option linter.unusedSimpArgs false
/-! Separation logic over the model's heap: assertions on parts of the heap, lists of them that stand side by side. No program in sight. -/
namespace Go.Cx
abbrev PH := Nat → Option Obj
end Go.Cx
namespace Go
def World.ph (w : World) : Cx.PH := fun b => w.heap[b]?
end Go
namespace Go.Cx

def PH.only (h : PH) (S : Nat → Bool) : PH := fun b => if S b then h b else none
def PH.less (h : PH) (S : Nat → Bool) : PH := fun b => if S b then none else h b
def PH.put (h : PH) (b : Nat) (o : Obj) : PH := fun c => if c = b then some o else h c
def Le (h k : PH) : Prop := ∀ b o, h b = some o → k b = some o

theorem Le.refl (h : PH) : Le h h := fun _ _ e => e
theorem Le.trans {a b c : PH} (h : Le a b) (k : Le b c) : Le a c := fun x o e => k x o (h x o e)
theorem Le.only {h k : PH} (l : Le h k) (S : Nat → Bool) : Le (h.only S) (k.only S) := fun b o e => by
  unfold PH.only at *; split at e <;> simp_all; exact l b o e
theorem Le.less {h k : PH} (l : Le h k) (S : Nat → Bool) : Le (h.less S) (k.less S) := fun b o e => by
  unfold PH.less at *; split at e <;> simp_all; exact l b o e
theorem only_le (h : PH) (S : Nat → Bool) : Le (h.only S) h := fun b o e => by
  unfold PH.only at e; split at e <;> simp_all
theorem less_le (h : PH) (S : Nat → Bool) : Le (h.less S) h := fun b o e => by
  unfold PH.less at e; split at e <;> simp_all

structure Assn where
  ok : PH → Prop
  mono : ∀ h k, Le h k → ok h → ok k

def Sep : List Assn → PH → Prop
  | [], _ => True
  | A :: L, h => ∃ S : Nat → Bool, A.ok (h.only S) ∧ Sep L (h.less S)

theorem Sep.mono {L : List Assn} : ∀ {h k : PH}, Le h k → Sep L h → Sep L k := by
  induction L with
  | nil => intro _ _ _ _; trivial
  | cons A L ih =>
    rintro h k l ⟨S, a, b⟩
    exact ⟨S, A.mono _ _ (l.only S) a, ih (l.less S) b⟩

theorem Sep.tail {A : Assn} {L : List Assn} {h : PH} (s : Sep (A :: L) h) : Sep L h := by
  obtain ⟨S, _, b⟩ := s; exact b.mono (less_le _ _)
theorem Sep.head {A : Assn} {L : List Assn} {h : PH} (s : Sep (A :: L) h) : A.ok h := by
  obtain ⟨S, a, _⟩ := s; exact A.mono _ _ (only_le _ _) a

theorem Sep.swap {A B : Assn} {L : List Assn} {h : PH} (s : Sep (A :: B :: L) h) : Sep (B :: A :: L) h := by
  obtain ⟨S, a, T, b, c⟩ := s
  refine ⟨fun x => T x && !S x, ?_, S, ?_, ?_⟩
  · have : (h.less S).only T = h.only fun x => T x && !S x := by
      funext x; simp only [PH.only, PH.less]; by_cases e1 : S x = true <;> by_cases e2 : T x = true <;> simp [e1, e2]
    rw [← this]; exact b
  · have : (h.less fun x => T x && !S x).only S = h.only S := by
      funext x; simp only [PH.only, PH.less]; by_cases e1 : S x = true <;> by_cases e2 : T x = true <;> simp [e1, e2]
    rw [this]; exact a
  · have : (h.less fun x => T x && !S x).less S = (h.less S).less T := by
      funext x; simp only [PH.less]; by_cases e1 : S x = true <;> by_cases e2 : T x = true <;> simp [e1, e2]
    rw [this]; exact c

theorem Sep.cons_mono {A : Assn} {L M : List Assn} (f : ∀ h, Sep L h → Sep M h) {h : PH} (s : Sep (A :: L) h) : Sep (A :: M) h := by
  obtain ⟨S, a, b⟩ := s; exact ⟨S, a, f _ b⟩

/-- A is one of L; L' are the others. -/
inductive Pick (A : Assn) : List Assn → List Assn → Prop
  | head (L : List Assn) : Pick A (A :: L) L
  | tail {B : Assn} {L L' : List Assn} (p : Pick A L L') : Pick A (B :: L) (B :: L')

theorem Pick.sep {A : Assn} {L L' : List Assn} (p : Pick A L L') : ∀ {h : PH}, Sep L h → Sep (A :: L') h := by
  induction p with
  | head L => exact fun s => s
  | tail p ih => intro h s; exact Sep.swap (Sep.cons_mono (fun _ => ih) s)

theorem Pick.back {A : Assn} {L L' : List Assn} (p : Pick A L L') : ∀ {h : PH}, Sep (A :: L') h → Sep L h := by
  induction p with
  | head L => exact fun s => s
  | tail p ih => intro h s; exact Sep.cons_mono (fun _ => ih) (Sep.swap s)

theorem Pick.ok {A : Assn} {L L' : List Assn} (p : Pick A L L') {h : PH} (s : Sep L h) : A.ok h := (p.sep s).head

/-- H are some of L; L' are the others. -/
inductive Sel : List Assn → List Assn → List Assn → Prop
  | nil (L : List Assn) : Sel L [] L
  | cons {A : Assn} {L L1 H L' : List Assn} (p : Pick A L L1) (s : Sel L1 H L') : Sel L (A :: H) L'

theorem Sel.sep {L H L' : List Assn} (s : Sel L H L') : ∀ {h : PH}, Sep L h → Sep (H ++ L') h := by
  induction s with
  | nil L => exact fun s => s
  | cons p s ih => intro h x; exact Sep.cons_mono (fun _ => ih) (p.sep x)

theorem Sep.append {H L : List Assn} : ∀ {h : PH}, Sep (H ++ L) h → ∃ S, Sep H (h.only S) ∧ Sep L (h.less S) := by
  induction H with
  | nil => intro h s; exact ⟨fun _ => false, trivial, by
      have : h.less (fun _ => false) = h := by funext x; simp [PH.less]
      rw [this]; exact s⟩
  | cons A H ih =>
    rintro h ⟨S, a, b⟩
    obtain ⟨T, c, d⟩ := ih b
    refine ⟨fun x => S x || T x, ⟨S, ?_, ?_⟩, ?_⟩
    · have : (h.only fun x => S x || T x).only S = h.only S := by funext x; simp only [PH.only]; by_cases e1 : S x = true <;> by_cases e2 : T x = true <;> simp [e1, e2]
      rw [this]; exact a
    · have : (h.only fun x => S x || T x).less S = (h.less S).only T := by funext x; simp only [PH.only, PH.less]; by_cases e1 : S x = true <;> by_cases e2 : T x = true <;> simp [e1, e2]
      rw [this]; exact c
    · have : h.less (fun x => S x || T x) = (h.less S).less T := by funext x; simp only [PH.less]; by_cases e1 : S x = true <;> by_cases e2 : T x = true <;> simp [e1, e2]
      rw [this]; exact d

theorem Sep.join {H L : List Assn} : ∀ {h : PH} (S : Nat → Bool), Sep H (h.only S) → Sep L (h.less S) → Sep (H ++ L) h := by
  induction H with
  | nil => intro h S _ s; exact s.mono (less_le _ _)
  | cons A H ih =>
    rintro h S ⟨T, a, b⟩ c
    refine ⟨fun x => S x && T x, ?_, ih (fun x => S x) ?_ ?_⟩
    · have : (h.only S).only T = h.only fun x => S x && T x := by funext x; simp only [PH.only]; by_cases e1 : S x = true <;> by_cases e2 : T x = true <;> simp [e1, e2]
      rw [← this]; exact a
    · have : (h.less fun x => S x && T x).only S = (h.only S).less T := by funext x; simp only [PH.only, PH.less]; by_cases e1 : S x = true <;> by_cases e2 : T x = true <;> simp [e1, e2]
      rw [this]; exact b
    · have : (h.less fun x => S x && T x).less S = h.less S := by funext x; simp only [PH.less]; by_cases e1 : S x = true <;> by_cases e2 : T x = true <;> simp [e1, e2]
      rw [this]; exact c

/-- A part of the heap just as it is. -/
def exact (x : PH) : Assn := ⟨fun h => Le x h, fun _ _ l e => e.trans l⟩

theorem Sep.rest {H L : List Assn} {h : PH} (s : Sep (H ++ L) h) : ∃ x, Sep (H ++ [exact x]) h ∧ Sep L x := by
  obtain ⟨S, a, b⟩ := s.append
  refine ⟨h.less S, Sep.join S a ?_, b⟩
  exact ⟨fun _ => true, fun b o e => by simpa [PH.only] using e, trivial⟩

theorem Sep.unrest {H L : List Assn} {h x : PH} (s : Sep (H ++ [exact x]) h) (r : Sep L x) : Sep (H ++ L) h := by
  obtain ⟨S, a, b⟩ := s.append
  exact Sep.join S a (r.mono b.head)

theorem Sep.left {H L : List Assn} {h : PH} (s : Sep (H ++ L) h) : Sep H h := by
  obtain ⟨S, a, _⟩ := s.append; exact a.mono (only_le _ _)
theorem Sep.right {H L : List Assn} {h : PH} (s : Sep (H ++ L) h) : Sep L h := by
  obtain ⟨S, _, b⟩ := s.append; exact b.mono (less_le _ _)

/-- One of L is written over: A becomes A'. -/
inductive Upd (A A' : Assn) : List Assn → List Assn → Prop
  | head (L : List Assn) : Upd A A' (A :: L) (A' :: L)
  | tail {B : Assn} {L L' : List Assn} (p : Upd A A' L L') : Upd A A' (B :: L) (B :: L')

theorem Upd.pick {A A' : Assn} {L L' : List Assn} (u : Upd A A' L L') : ∃ M, Pick A L M ∧ Pick A' L' M := by
  induction u with
  | head L => exact ⟨L, .head L, .head L⟩
  | tail _ ih => obtain ⟨M, a, b⟩ := ih; exact ⟨_, .tail a, .tail b⟩

theorem Sep.upd {A A' : Assn} {L L' : List Assn} (u : Upd A A' L L') {h : PH} {b : Nat} {o : Obj}
    (h1 : ∀ k, A.ok k → (k b).isSome = true) (h2 : ∀ k, Le k h → A.ok k → A'.ok (k.put b o)) (s : Sep L h) : Sep L' (h.put b o) := by
  obtain ⟨M, pa, pb⟩ := u.pick
  refine pb.back ?_
  obtain ⟨S, a, c⟩ := pa.sep s
  have hS : S b = true := by
    have := h1 _ a
    unfold PH.only at this
    split at this
    · assumption
    · simp at this
  refine ⟨S, ?_, ?_⟩
  · have : (h.put b o).only S = (h.only S).put b o := by
      funext x; simp only [PH.only, PH.put]; by_cases e : x = b
      · subst e; simp [hS]
      · simp [e]
    rw [this]; exact h2 _ (only_le _ _) a
  · have : (h.put b o).less S = h.less S := by
      funext x; simp only [PH.less, PH.put]; by_cases e : x = b
      · subst e; simp [hS]
      · simp [e]
    rw [this]; exact c

/-- A new block. -/
theorem Sep.push {A : Assn} {L : List Assn} {h : PH} {b : Nat} {o : Obj} (hb : h b = none) (hA : ∀ k : PH, k b = some o → A.ok k) (s : Sep L h) : Sep (A :: L) (h.put b o) := by
  refine ⟨fun x => x == b, hA _ (by simp [PH.only, PH.put]), ?_⟩
  have : (h.put b o).less (fun x => x == b) = h := by
    funext x; simp only [PH.less, PH.put]; by_cases e : x = b
    · subst e; simp [hb]
    · simp [e]
  rw [this]; exact s

theorem ph_alloc (w : World) (o : Obj) : (w.alloc o).ph = w.ph.put w.heap.size o := by
  funext b
  show (w.heap.push o)[b]? = _
  unfold PH.put World.ph
  rw [Array.getElem?_push]
theorem ph_size (w : World) : w.ph w.heap.size = none := by simp [World.ph]

/-- Block b is a row of cells, none of which is frozen. -/
@[irreducible] def bk (b t : Nat) (cs : List Value) : Assn where
  ok h := h b = some (.cells cs.toArray t (0, 0))
  mono := fun _ _ l e => l _ _ e

theorem bk_ok {b t : Nat} {cs : List Value} {h : PH} : (bk b t cs).ok h ↔ h b = some (.cells cs.toArray t (0, 0)) := by
  unfold bk; exact Iff.rfl

theorem Sep.alloc {L : List Assn} {w : World} (s : Sep L w.ph) (t : Nat) (cs : List Value) : Sep (bk w.heap.size t cs :: L) (w.alloc (.cells cs.toArray t)).ph := by
  rw [ph_alloc]
  exact s.push (ph_size w) fun k e => bk_ok.2 e

/-- What is the same of two worlds, but for the memory. -/
structure Env0 (w w' : World) : Prop where
  os : w'.os = w.os
  tape : w'.tape = w.tape
  output : w'.output = w.output
theorem Env0.refl (w : World) : Env0 w w := ⟨rfl, rfl, rfl⟩
theorem Env0.trans {a b c : World} (h : Env0 a b) (k : Env0 b c) : Env0 a c := ⟨k.os.trans h.os, k.tape.trans h.tape, k.output.trans h.output⟩

theorem below_of_exact {w w' : World} (h : Le w.ph w'.ph) (e : Env0 w w') : Go.RowKit.Below w.heap.size w w' := by
  refine ⟨e.os, e.tape, e.output, ?_, fun k hk => ?_⟩
  · rcases Nat.lt_or_ge w'.heap.size w.heap.size with hlt | hge
    · exfalso
      have := h w'.heap.size w.heap[w'.heap.size] (by simp [World.ph, hlt])
      simp [World.ph] at this
    · exact hge
  · have := h k w.heap[k] (by simp [World.ph, hk])
    simp only [World.ph] at this
    rw [this]; simp [hk]
theorem pickA {A : Assn} {L L' : List Assn} (h : Pick A L L' := by repeat (first | exact .head _ | apply Pick.tail | apply Upd.tail)) : Pick A L L' := h
theorem updA {A A' : Assn} {L L' : List Assn} (h : Upd A A' L L' := by repeat (first | exact .head _ | apply Pick.tail | apply Upd.tail)) : Upd A A' L L' := h
theorem selA {L H L' : List Assn} (h : Sel L H L' := by repeat (first | exact Sel.nil _ | (apply Sel.cons; (· repeat (first | exact .head _ | apply Pick.tail | apply Upd.tail))))) : Sel L H L' := h
end Go.Cx
/-! Stepping through a region's operations: what is known of the temporaries is a short list, what is known of the memory is a list of assertions. No program in sight. -/
namespace Go.Cx
abbrev Env := List (Nat × Value)
def look : Env → Nat → Option Value
  | [], _ => none
  | (t, v) :: r, u => if t = u then some v else look r u
def ev (n : Nat) (env : Env) : Operand → Option Value
  | .tmp t => if t < n then look env t else none
  | .const v => some v
  | .global g => some (.pointer (some ⟨g, 0, none⟩))
  | .func f => some (.func (.func f) #[] #[])
def putE (env : Env) : Option Tmp → Value → Env
  | some d, v => (d, v) :: env
  | none, _ => env

structure Fr (n : Nat) (env : Env) (a : Act) : Prop where
  defers : a.defers = []
  size : a.tmps.size = n
  get : ∀ t v, t < n → look env t = some v → a.tmps.getD t undef = v

theorem Fr.eval {n : Nat} {env : Env} {a : Act} (f : Fr n env a) {x : Operand} {v : Value} (h : ev n env x = some v) : a.eval x = v := by
  cases x with
  | tmp t =>
    simp only [ev] at h
    split at h
    · exact f.get t v (by assumption) h
    · cases h
  | const u => simp only [ev, Option.some.injEq] at h; exact h
  | global g => simp only [ev, Option.some.injEq] at h; exact h
  | func g => simp only [ev, Option.some.injEq] at h; exact h

theorem Fr.put {n : Nat} {env : Env} {a : Act} (f : Fr n env a) (d : Option Tmp) (v : Value) : Fr n (putE env d v) (a.put d v) := by
  cases d with
  | none => exact f
  | some d =>
    refine ⟨f.defers, by simp [Act.put, f.size], fun t u ht hl => ?_⟩
    simp only [putE, look] at hl
    by_cases e : d = t
    · subst e
      simp only [if_true, Option.some.injEq] at hl
      subst hl
      simp [Act.put, f.size, ht]
    · rw [if_neg e] at hl
      have := f.get t u ht hl
      simp only [Act.put]
      rw [← this]
      simp [Array.getElem?_setIfInBounds_ne e]

def Sub (cur : Env) : Env → Prop
  | [] => True
  | (t, v) :: r => look cur t = some v ∧ Sub cur r
theorem Sub.look {cur : Env} : ∀ {e : Env}, Sub cur e → ∀ t v, look e t = some v → Cx.look cur t = some v
  | [], _, _, _, h => by cases h
  | (u, x) :: r, ⟨h1, h2⟩, t, v, h => by
    simp only [Cx.look] at h
    split at h
    · rename_i e; subst e; cases h; exact h1
    · exact Sub.look h2 t v h
theorem Fr.sub {n : Nat} {env e : Env} {a : Act} (f : Fr n env a) (s : Sub env e) : Fr n e a :=
  ⟨f.defers, f.size, fun t v ht hl => f.get t v ht (s.look t v hl)⟩

def gd (ops : Array Oper) (n : Nat) (env : Env) : Option (Nat × Bool) → Option Bool
  | none => some true
  | some (j, want) =>
    match (ops[j]?).bind (·.dst) with
    | none => none
    | some d => match ev n env (.tmp d) with
      | some (.bool b) => some (b == want)
      | some (.tuple _) => some false
      | _ => none

theorem gd_wanted {ops : Array Oper} {n : Nat} {env : Env} {a : Act} (f : Fr n env a) {o : Oper} {b : Bool} (h : gd ops n env o.guard = some b) : Region.wanted o (yielded ops a.tmps) = b := by
  unfold Region.wanted
  cases hg : o.guard with
  | none => rw [hg] at h; simpa [gd] using h
  | some jw =>
    obtain ⟨j, want⟩ := jw
    rw [hg] at h
    simp only [gd] at h
    simp only [yielded]
    cases hd : (ops[j]?).bind (·.dst) with
    | none => rw [hd] at h; cases h
    | some d =>
      rw [hd] at h
      simp only [Option.bind_some] at h ⊢
      cases hv : ev n env (.tmp d) with
      | none => rw [hv] at h; cases h
      | some v =>
        rw [hv] at h
        have he := f.eval hv
        have hlt : d < n := by
          simp only [ev] at hv
          split at hv
          · assumption
          · cases hv
        have hs : a.tmps[d]? = some v := by
          have : d < a.tmps.size := by rw [f.size]; exact hlt
          simp only [Act.eval] at he
          simp only [Array.getD_eq_getD_getElem?, Array.getElem?_eq_getElem this, Option.getD_some] at he
          simp [Array.getElem?_eq_getElem this, he]
        rw [hs]
        cases v <;> simp_all

/-- The rest of a region's operations, in the text's order. -/
def CX (P : Program) (ops : Array Oper) (Q : Exit → Act → World → Prop) (n : Nat) (e0 : World) (env : Env) (L : List Assn) (rest : List Oper) : Prop :=
  ∀ a w, Fr n env a → Sep L w.ph → Env0 e0 w → wpList P ops Q rest a w
/-- A piece of code. -/
def CC (P : Program) (c : Code) (Q : Exit → Act → World → Prop) (n : Nat) (e0 : World) (env : Env) (L : List Assn) : Prop :=
  ∀ a w, Fr n env a → Sep L w.ph → Env0 e0 w → c.wp P Q a w
/-- What is to hold at the end. -/
def CQ (K : Act → World → Prop) (n : Nat) (e0 : World) (env : Env) (L : List Assn) : Prop :=
  ∀ a w, Fr n env a → Sep L w.ph → Env0 e0 w → K a w

section
variable {P : Program} {ops : Array Oper} {Q : Exit → Act → World → Prop} {n : Nat} {e0 : World} {env : Env} {L : List Assn} {rest : List Oper}
variable {dst : Option Tmp} {ty : TypeId} {pos : String} {aft : Array Edge} {g : Option (Nat × Bool)} {op : Op}

theorem CX.skip (hg : gd ops n env g = some false) (h : CX P ops Q n e0 (putE env dst undef) L rest) : CX P ops Q n e0 env L (⟨dst, op, ty, pos, aft, g⟩ :: rest) := by
  intro a w hf hs he
  have hw : Region.wanted (⟨dst, op, ty, pos, aft, g⟩ : Oper) (yielded ops a.tmps) = false := gd_wanted hf hg
  unfold wpList
  rw [hw]
  exact h _ _ (hf.put dst undef) hs he

/-- One operation: whatever it does. -/
theorem CX.step (hg : gd ops n env g = some true)
    (h : ∀ a w, Fr n env a → Sep L w.ph → Env0 e0 w → ∀ K : Act → World → Prop, (∀ a w, wpList P ops Q rest a w → K a w) → (⟨dst, op, ty, pos, aft, g⟩ : Oper).wp P a w K Q) :
    CX P ops Q n e0 env L (⟨dst, op, ty, pos, aft, g⟩ :: rest) := by
  intro a w hf hs he
  have hw : Region.wanted (⟨dst, op, ty, pos, aft, g⟩ : Oper) (yielded ops a.tmps) = true := gd_wanted hf hg
  unfold wpList
  rw [hw]
  exact .inl (h a w hf hs he _ fun _ _ h => h)

/-- One operation that yields a value, in a world of which L' is known then. -/
theorem CX.value (hg : gd ops n env g = some true) {v : Value} {L' : List Assn}
    (hr : ∀ a w, Fr n env a → Sep L w.ph → ∃ w', (execOp a.eval ⟨dst, op, ty, pos, aft, g⟩).run P w = .ok (.value v) w' ∧ Sep L' w'.ph ∧ Env0 w w')
    (h : CX P ops Q n e0 (putE env dst v) L' rest) : CX P ops Q n e0 env L (⟨dst, op, ty, pos, aft, g⟩ :: rest) := by
  refine CX.step hg fun a w hf hs he K hK => ?_
  obtain ⟨w', hrun, hs', he'⟩ := hr a w hf hs
  unfold Oper.wp
  rw [hrun]
  exact hK _ _ (h _ _ (hf.put dst v) hs' (he.trans he'))

/-- One operation that only reckons. -/
theorem CX.pure' (hg : gd ops n env g = some true) {v : Value}
    (hr : ∀ a w, Fr n env a → Sep L w.ph → (execOp a.eval ⟨dst, op, ty, pos, aft, g⟩).run P w = .ok (.value v) w)
    (h : CX P ops Q n e0 (putE env dst v) L rest) : CX P ops Q n e0 env L (⟨dst, op, ty, pos, aft, g⟩ :: rest) :=
  CX.value hg (fun a w hf hs => ⟨w, hr a w hf hs, hs, Env0.refl w⟩) h

/-- An operation that only reckons or reads: its value. -/
def PS (P : Program) (ops : Array Oper) (n : Nat) (env : Env) (L : List Assn) (o : Oper) (v : Value) : Prop :=
  gd ops n env o.guard = some true ∧ ∀ a w, Fr n env a → Sep L w.ph → (execOp a.eval o).run P w = .ok (.value v) w
theorem CX.ps {v : Value} (hp : PS P ops n env L ⟨dst, op, ty, pos, aft, g⟩ v) (h : CX P ops Q n e0 (putE env dst v) L rest) : CX P ops Q n e0 env L (⟨dst, op, ty, pos, aft, g⟩ :: rest) :=
  CX.pure' hp.1 hp.2 h

theorem CX.nil (h : CQ (Q .normal) n e0 env L) : CX P ops Q n e0 env L [] := fun a w hf hs he => h a w hf hs he

theorem PS.move {x : Operand} {v : Value} (hg : gd ops n env g = some true) (hx : ev n env x = some v) :
    PS P ops n env L ⟨dst, .move x, ty, pos, aft, g⟩ (v) :=
  ⟨hg, (fun a w hf _ => by simp [execOp, hf.eval hx])⟩
theorem PS.assign {x : Operand} {v : Value} (hg : gd ops n env g = some true) (hx : ev n env x = some v) :
    PS P ops n env L ⟨dst, .assign x, ty, pos, aft, g⟩ (v) :=
  ⟨hg, (fun a w hf _ => by simp [execOp, hf.eval hx])⟩
theorem PS.pickT {c x y : Operand} {v : Value} (hg : gd ops n env g = some true) (hc : ev n env c = some (.bool true)) (hx : ev n env x = some v) :
    PS P ops n env L ⟨dst, .pick c x y, ty, pos, aft, g⟩ (v) :=
  ⟨hg, (fun a w hf _ => by simp [execOp, hf.eval hx, hf.eval hc, asBool])⟩
theorem PS.pickF {c x y : Operand} {v : Value} (hg : gd ops n env g = some true) (hc : ev n env c = some (.bool false)) (hy : ev n env y = some v) :
    PS P ops n env L ⟨dst, .pick c x y, ty, pos, aft, g⟩ (v) :=
  ⟨hg, (fun a w hf _ => by simp [execOp, hf.eval hy, hf.eval hc, asBool])⟩
theorem PS.extract {x : Operand} {i : Nat} {vs : Array Value} {v : Value} (hg : gd ops n env g = some true) (hx : ev n env x = some (.tuple vs)) (hi : vs[i]? = some v) :
    PS P ops n env L ⟨dst, .extract x i, ty, pos, aft, g⟩ (v) :=
  ⟨hg, (fun a w hf _ => by simp [execOp, hf.eval hx, Instr.extract, hi])⟩
theorem PS.notD {x : Operand} {t : TypeId} {p : Prop} {_ : Decidable p} (hg : gd ops n env g = some true) (hx : ev n env x = some (.bool (decide p))) :
    PS P ops n env L ⟨dst, .unOp .not t x, ty, pos, aft, g⟩ (.bool (decide (¬ p))) :=
  ⟨hg, (fun a w hf _ => by simp [execOp, hf.eval hx, Op.unary])⟩
theorem PS.not {x : Operand} {t : TypeId} {b : Bool} (hg : gd ops n env g = some true) (hx : ev n env x = some (.bool b)) :
    PS P ops n env L ⟨dst, .unOp .not t x, ty, pos, aft, g⟩ (.bool (!b)) :=
  ⟨hg, (fun a w hf _ => by simp [execOp, hf.eval hx, Op.unary])⟩
theorem PS.notInt {x : Operand} {t : TypeId} {k : IntKind} {z : Int} (hg : gd ops n env g = some true) (hx : ev n env x = some (.int k z)) {r : Int}
    (hr : ∀ w : World, (Op.intBits .xor k (if k.signed then -1 else k.max) z).run P w = .ok (.int k r) w) :
    PS P ops n env L ⟨dst, .unOp .xor t x, ty, pos, aft, g⟩ (.int k r) :=
  ⟨hg, (fun a w hf _ => by simp [execOp, hf.eval hx, Op.unary, hr w])⟩
theorem PS.nilCheck {x : Operand} {ad : Addr} (hg : gd ops n env g = some true) (hx : ev n env x = some (.pointer (some ad))) :
    PS P ops n env L ⟨dst, .nilCheck x, ty, pos, aft, g⟩ (.pointer (some ad)) :=
  ⟨hg, (fun a w hf _ => by simp [execOp, hf.eval hx])⟩
/-! ### Whole numbers -/
theorem int_beq (p q : Int) : (p == q) = decide (p = q) := rfl
theorem eqGuard_int (bo : BinOp) (t : TypeId) (x y : Operand) (k k' : IntKind) (a b : Int) (w : World) : (eqGuard bo t x y (.int k a) (.int k' b)).run P w = .ok () w := by
  cases bo <;> simp [eqGuard]

theorem PS.add {x y : Operand} {t u : TypeId} {k : IntKind} {p q z : Int} (hg : gd ops n env g = some true) (hx : ev n env x = some (.int k p)) (hy : ev n env y = some (.int k q))
    (hz : k.wrap (p + q) = z) :
    PS P ops n env L ⟨dst, .binOp .add t x y u, ty, pos, aft, g⟩ (.int k z) :=
  ⟨hg, (fun a w hf _ => by simp [execOp, hf.eval hx, hf.eval hy, eqGuard_int, Go.binOp, Op.intArith, hz])⟩
theorem PS.sub {x y : Operand} {t u : TypeId} {k : IntKind} {p q z : Int} (hg : gd ops n env g = some true) (hx : ev n env x = some (.int k p)) (hy : ev n env y = some (.int k q))
    (hz : k.wrap (p - q) = z) :
    PS P ops n env L ⟨dst, .binOp .sub t x y u, ty, pos, aft, g⟩ (.int k z) :=
  ⟨hg, (fun a w hf _ => by simp [execOp, hf.eval hx, hf.eval hy, eqGuard_int, Go.binOp, Op.intArith, hz])⟩
theorem PS.mul {x y : Operand} {t u : TypeId} {k : IntKind} {p q z : Int} (hg : gd ops n env g = some true) (hx : ev n env x = some (.int k p)) (hy : ev n env y = some (.int k q))
    (hz : k.wrap (p * q) = z) :
    PS P ops n env L ⟨dst, .binOp .mul t x y u, ty, pos, aft, g⟩ (.int k z) :=
  ⟨hg, (fun a w hf _ => by simp [execOp, hf.eval hx, hf.eval hy, eqGuard_int, Go.binOp, Op.intArith, hz])⟩
theorem PS.quo {x y : Operand} {t u : TypeId} {k : IntKind} {p q z : Int} (hg : gd ops n env g = some true) (hx : ev n env x = some (.int k p)) (hy : ev n env y = some (.int k q))
    (hq : q ≠ 0) (hz : k.wrap (p.tdiv q) = z) :
    PS P ops n env L ⟨dst, .binOp .quo t x y u, ty, pos, aft, g⟩ (.int k z) :=
  ⟨hg, (fun a w hf _ => by simp [execOp, hf.eval hx, hf.eval hy, eqGuard_int, Go.binOp, Op.intDiv, hz, hq])⟩
theorem PS.rem {x y : Operand} {t u : TypeId} {k : IntKind} {p q z : Int} (hg : gd ops n env g = some true) (hx : ev n env x = some (.int k p)) (hy : ev n env y = some (.int k q))
    (hq : q ≠ 0) (hz : p.tmod q = z) :
    PS P ops n env L ⟨dst, .binOp .rem t x y u, ty, pos, aft, g⟩ (.int k z) :=
  ⟨hg, (fun a w hf _ => by simp [execOp, hf.eval hx, hf.eval hy, eqGuard_int, Go.binOp, Op.intDiv, hz, hq])⟩
theorem PS.lss {x y : Operand} {t u : TypeId} {k : IntKind} {p q : Int} (hg : gd ops n env g = some true) (hx : ev n env x = some (.int k p)) (hy : ev n env y = some (.int k q)) :
    PS P ops n env L ⟨dst, .binOp .lss t x y u, ty, pos, aft, g⟩ (.bool (decide (p < q))) :=
  ⟨hg, (fun a w hf _ => by simp [execOp, hf.eval hx, hf.eval hy, eqGuard_int, Go.binOp, Op.intCmp])⟩
theorem PS.leq {x y : Operand} {t u : TypeId} {k : IntKind} {p q : Int} (hg : gd ops n env g = some true) (hx : ev n env x = some (.int k p)) (hy : ev n env y = some (.int k q)) :
    PS P ops n env L ⟨dst, .binOp .leq t x y u, ty, pos, aft, g⟩ (.bool (decide (p ≤ q))) :=
  ⟨hg, (fun a w hf _ => by simp [execOp, hf.eval hx, hf.eval hy, eqGuard_int, Go.binOp, Op.intCmp])⟩
theorem PS.gtr {x y : Operand} {t u : TypeId} {k : IntKind} {p q : Int} (hg : gd ops n env g = some true) (hx : ev n env x = some (.int k p)) (hy : ev n env y = some (.int k q)) :
    PS P ops n env L ⟨dst, .binOp .gtr t x y u, ty, pos, aft, g⟩ (.bool (decide (q < p))) :=
  ⟨hg, (fun a w hf _ => by simp [execOp, hf.eval hx, hf.eval hy, eqGuard_int, Go.binOp, Op.intCmp])⟩
theorem PS.geq {x y : Operand} {t u : TypeId} {k : IntKind} {p q : Int} (hg : gd ops n env g = some true) (hx : ev n env x = some (.int k p)) (hy : ev n env y = some (.int k q)) :
    PS P ops n env L ⟨dst, .binOp .geq t x y u, ty, pos, aft, g⟩ (.bool (decide (q ≤ p))) :=
  ⟨hg, (fun a w hf _ => by simp [execOp, hf.eval hx, hf.eval hy, eqGuard_int, Go.binOp, Op.intCmp])⟩
theorem PS.eql {x y : Operand} {t u : TypeId} {k : IntKind} {p q : Int} (hg : gd ops n env g = some true) (hx : ev n env x = some (.int k p)) (hy : ev n env y = some (.int k q)) :
    PS P ops n env L ⟨dst, .binOp .eql t x y u, ty, pos, aft, g⟩ (.bool (decide (p = q))) :=
  ⟨hg, (fun a w hf _ => by simp [execOp, hf.eval hx, hf.eval hy, eqGuard_int, Go.binOp, Op.intCmp, int_beq])⟩
theorem PS.neq {x y : Operand} {t u : TypeId} {k : IntKind} {p q : Int} (hg : gd ops n env g = some true) (hx : ev n env x = some (.int k p)) (hy : ev n env y = some (.int k q)) :
    PS P ops n env L ⟨dst, .binOp .neq t x y u, ty, pos, aft, g⟩ (.bool (decide (p ≠ q))) :=
  ⟨hg, (fun a w hf _ => by simp [execOp, hf.eval hx, hf.eval hy, eqGuard_int, Go.binOp, Op.intCmp, bne, int_beq])⟩
theorem PS.conv {x : Operand} {s t : TypeId} {k k' : IntKind} {p z : Int} {ds : TypeDesc} (hs : P.underlying s = some ds) (ht : P.underlying t = some (.int k')) (hg : gd ops n env g = some true) (hx : ev n env x = some (.int k p))
    (hz : k'.wrap p = z) :
    PS P ops n env L ⟨dst, .convert s t x, ty, pos, aft, g⟩ (.int k' z) :=
  ⟨hg, (fun a w hf _ => by simp [execOp, hf.eval hx, Go.convert, run_underlying hs, run_underlying ht, Conv.intToInt, hz])⟩
end

theorem wr_i64 {z : Int} (h0 : -9223372036854775808 ≤ z) (h1 : z ≤ 9223372036854775807) : IntKind.i64.wrap z = z := by
  rw [IntKind.wrap_i64]; omega
theorem wr_u64 {z : Int} (h0 : 0 ≤ z) (h1 : z ≤ 18446744073709551615) : IntKind.u64.wrap z = z := by
  simp only [IntKind.wrap, IntKind.bits, IntKind.signed]; simp; omega
theorem wr_u32 {z : Int} (h0 : 0 ≤ z) (h1 : z ≤ 4294967295) : IntKind.u32.wrap z = z := by
  simp only [IntKind.wrap, IntKind.bits, IntKind.signed]; simp; omega
theorem wr_u8 {z : Int} (h0 : 0 ≤ z) (h1 : z ≤ 255) : IntKind.u8.wrap z = z := by
  simp only [IntKind.wrap, IntKind.bits, IntKind.signed]; simp; omega
theorem tmod_nn {p q : Int} (h : 0 ≤ p) : p.tmod q = p % q := Int.tmod_eq_emod_of_nonneg h
theorem tdiv_nn {p q : Int} (h : 0 ≤ p) : p.tdiv q = p / q := Int.tdiv_eq_ediv_of_nonneg h
end Go.Cx
/-! Stepping: memory, control, calls. No program in sight. -/
namespace Go.Cx

/-! ### Facts on types -/
class TyS (P : Program) (t : TypeId) : Prop where
  agg : ∀ w, (isAgg t).run P w = .ok false w
  size : ∀ w, (sizeOf t).run P w = .ok 1 w
class TyG (P : Program) (t : TypeId) (sz : outParam Nat) : Prop where
  agg : ∀ w, (isAgg t).run P w = .ok true w
  size : ∀ w, (sizeOf t).run P w = .ok sz w
class SzT (P : Program) (t : TypeId) (sz : outParam Nat) : Prop where
  size : ∀ w, (sizeOf t).run P w = .ok sz w
class FldA (P : Program) (s i : Nat) (off : outParam Nat) : Prop where
  fld : ∃ fs f k, P.underlying s = some (.struct fs) ∧ fs[i]? = some f ∧ f.offset = off ∧ (∀ w, (sizeOf f.type).run P w = .ok (k + 1) w)
class ElemA (P : Program) (t : TypeId) (e sz : outParam Nat) : Prop where
  under : P.underlying t = some (.slice e)
  size : ∀ w, (sizeOf e).run P w = .ok sz w
class ArrA (P : Program) (t : TypeId) (len e sz : outParam Nat) : Prop where
  under : P.underlying t = some (.array len e)
  size : ∀ w, (sizeOf e).run P w = .ok sz w
class ZeroA (P : Program) (t : TypeId) (v : outParam Value) : Prop where
  zero : ∀ w, (zeroValue t).run P w = .ok v w
/-- A pointer's type. -/
class PtrA (P : Program) (t : TypeId) (d : outParam Nat) : Prop where
  hu : P.underlying t = some (.pointer d)
class HasFn (P : Program) (f : FuncId) : Prop where
  call : ∀ args w, (callFunc f args).run P w = .ok (.enter f args) w

/-! ### What is known of cells -/
def CellAt (L : List Assn) (b o : Nat) (v : Value) : Prop :=
  ∀ h, Sep L h → ∃ cs t fr, h b = some (.cells cs t fr) ∧ cs[o]? = some v
def CellsAt (L : List Assn) (b o : Nat) (vs : List Value) : Prop :=
  ∀ h, Sep L h → ∃ cs t fr, h b = some (.cells cs t fr) ∧ ∀ j v, vs[j]? = some v → cs[o + j]? = some v

theorem CellAt.pick {L L' : List Assn} {b t o : Nat} {cs : List Value} {v : Value} (p : Pick (bk b t cs) L L') (hc : cs[o]? = some v) : CellAt L b o v := fun h s => by
  have e := bk_ok.1 (p.ok s)
  exact ⟨_, _, _, e, by simpa using hc⟩
theorem CellsAt.pick {L L' : List Assn} {b t o : Nat} {cs vs : List Value} (p : Pick (bk b t cs) L L') (hc : (cs.drop o).take vs.length = vs) : CellsAt L b o vs := fun h s => by
  have e := bk_ok.1 (p.ok s)
  refine ⟨_, _, _, e, fun j v hv => ?_⟩
  have hj : j < vs.length := (List.getElem?_eq_some_iff.1 hv).1
  rw [← hc, List.getElem?_take] at hv
  simpa [hj] using hv
theorem CellAt.exact {L L' : List Assn} {x : PH} {b o : Nat} {v : Value} (p : Pick (exact x) L L') (hc : ∃ cs t fr, x b = some (.cells cs t fr) ∧ cs[o]? = some v) : CellAt L b o v := fun h s => by
  obtain ⟨cs, t, fr, e, hv⟩ := hc
  exact ⟨cs, t, fr, (p.ok s) _ _ e, hv⟩
theorem CellsAt.exact {L L' : List Assn} {x : PH} {b o : Nat} {vs : List Value} (p : Pick (exact x) L L') (hc : ∃ cs t fr, x b = some (.cells cs t fr) ∧ ∀ j v, vs[j]? = some v → cs[o + j]? = some v) : CellsAt L b o vs := fun h s => by
  obtain ⟨cs, t, fr, e, hv⟩ := hc
  exact ⟨cs, t, fr, (p.ok s) _ _ e, hv⟩

theorem cell_ph {w : World} {b o : Nat} {cs : Array Value} {t : TypeId} {fr : Nat × Nat} {v : Value} (h : w.ph b = some (.cells cs t fr)) (hv : cs[o]? = some v) : w.cell? ⟨b, o, none⟩ = some v := by
  simp only [World.ph] at h
  simp [World.cell?, h, hv]

theorem run_loadVarS {P : Program} {t : TypeId} [S : TyS P t] {w : World} {a : Addr} {v : Value} (h : w.cell? a = some v) : (loadVar t a).run P w = .ok v w := by
  simp [loadVar, S.agg w, load, Sem.run, h]
theorem run_loadVarG {P : Program} {t sz : Nat} [G : TyG P t sz] {w : World} {b o : Nat} {vs : List Value} (hl : vs.length = sz) (h : ∀ j v, vs[j]? = some v → w.cell? ⟨b, o + j, none⟩ = some v) :
    (loadVar t ⟨b, o, none⟩).run P w = .ok (.agg vs.toArray) w := by
  have hq := run_loadCells_list (P := P) w ⟨b, o, none⟩ vs (fun j v hv => by
    have : (⟨b, o, none⟩ : Addr).add j = ⟨b, o + j, none⟩ := by unfold Addr.add; split <;> simp_all
    rw [this]; exact h j v hv)
  rw [hl] at hq
  simp [loadVar, G.agg w, G.size w, hq]

theorem ph_setCell {w : World} {b o : Nat} {cs : Array Value} {t : TypeId} {fr : Nat × Nat} (h : w.ph b = some (.cells cs t fr)) (v : Value) :
    (w.setCell ⟨b, o, none⟩ v).ph = w.ph.put b (.cells (cs.setIfInBounds o v) t fr) := by
  funext c
  simp only [World.ph] at h
  simp only [World.ph, World.setCell, PH.put, Array.getElem?_modify]
  by_cases e : c = b
  · subst e; simp [h]
  · simp [e, Ne.symm e]

theorem run_store_ph {P : Program} {w : World} {b o : Nat} {cs : Array Value} {t : TypeId} {fr : Nat × Nat} (h : w.ph b = some (.cells cs t fr)) (ho : o < cs.size) (hf : cs.size ≤ fr.1 ∨ fr.2 ≤ fr.1) {v : Value} (hv : v.oneCell' = true) :
    (store ⟨b, o, none⟩ v).run P w = .ok () (w.setCell ⟨b, o, none⟩ v) := by
  have hc : w.cell? ⟨b, o, none⟩ = some cs[o] := cell_ph h (by simp [ho])
  have hfz : w.frozen? ⟨b, o, none⟩ = false := by
    simp only [World.ph] at h
    simp [World.frozen?, h]; omega
  cases v <;> simp_all [store, Sem.run, Value.oneCell']

def setL (cs : List Value) (o : Nat) (vs : List Value) : List Value := cs.take o ++ (vs ++ cs.drop (o + vs.length))

theorem setL_nil (cs : List Value) (o : Nat) : setL cs o [] = cs := by simp [setL]
theorem setL_cons (cs : List Value) (o : Nat) (v : Value) (vs : List Value) (h : o + (v :: vs).length ≤ cs.length) : setL (cs.set o v) (o + 1) vs = setL cs o (v :: vs) := by
  simp only [List.length_cons] at h
  unfold setL
  have h1 : (cs.set o v).take (o + 1) = cs.take o ++ [v] := by
    rw [List.take_set]
    apply List.ext_getElem?
    intro j
    by_cases hj : j < o
    · rw [List.getElem?_append_left (by simp; omega)]
      rw [List.getElem?_set_ne (by omega)]
      simp [hj, Nat.lt_succ_of_lt hj]
    · by_cases he : j = o
      · subst he
        rw [List.getElem?_append_right (by simp; omega)]
        rw [List.getElem?_set_self (by simp; omega)]
        simp [Nat.min_eq_left (show j ≤ cs.length by omega)]
      · rw [List.getElem?_eq_none (by simp; omega), List.getElem?_eq_none (by simp; omega)]
  rw [h1, List.drop_set_of_lt (by omega)]
  simp only [List.append_assoc, List.cons_append, List.nil_append, List.length_cons]
  congr 4
  omega
theorem length_setL (cs : List Value) (o : Nat) (vs : List Value) (h : o + vs.length ≤ cs.length) : (setL cs o vs).length = cs.length := by
  simp [setL]; omega

theorem run_storeCells_ph {P : Program} {b : Nat} {t : TypeId} {fr : Nat × Nat} (o : Nat) : ∀ (vs : List Value) (i : Nat) (cs : List Value) (w : World), w.ph b = some (.cells cs.toArray t fr) → o + i + vs.length ≤ cs.length →
    (cs.length ≤ fr.1 ∨ fr.2 ≤ fr.1) → (∀ v ∈ vs, v.oneCell' = true) →
    ∃ w', (storeCells ⟨b, o, none⟩ vs i).run P w = .ok () w' ∧ w'.ph = w.ph.put b (.cells (setL cs (o + i) vs).toArray t fr) ∧ Env0 w w'
  | [], i, cs, w, h, _, _, _ => by
    refine ⟨w, by simp [storeCells], ?_, Env0.refl w⟩
    rw [setL_nil]
    funext c; simp only [PH.put]; split
    · rename_i e; subst e; exact h
    · rfl
  | v :: vs, i, cs, w, h, hl, hf, h1 => by
    simp only [List.length_cons] at hl
    have ha : (⟨b, o, none⟩ : Addr).add i = ⟨b, o + i, none⟩ := by unfold Addr.add; split <;> simp_all
    have hs := run_store_ph (P := P) (o := o + i) h (by simp; omega) (by simpa using hf) (h1 v (by simp))
    have hp := ph_setCell (o := o + i) h v
    have hp' : (w.setCell ⟨b, o + i, none⟩ v).ph b = some (.cells (cs.set (o + i) v).toArray t fr) := by
      rw [hp]; simp [PH.put]
    obtain ⟨w', hr, hph, he⟩ := run_storeCells_ph (P := P) o vs (i + 1) (cs.set (o + i) v) _ hp' (by simp; omega) (by simpa using hf) (fun u hu => h1 u (by simp [hu]))
    refine ⟨w', by simp [storeCells, ha, hs, hr], ?_, Env0.trans (b := w.setCell ⟨b, o + i, none⟩ v) ⟨rfl, rfl, rfl⟩ he⟩
    rw [hph, hp, ← Nat.add_assoc, setL_cons cs (o + i) v vs (by simp; omega)]
    funext c; simp only [PH.put]; split <;> rfl

section
variable {P : Program} {ops : Array Oper} {Q : Exit → Act → World → Prop} {n : Nat} {e0 : World} {env : Env} {L : List Assn} {rest : List Oper}
variable {dst : Option Tmp} {ty : TypeId} {pos : String} {aft : Array Edge} {g : Option (Nat × Bool)} {op : Op}

theorem addr_add (b o k : Nat) : (⟨b, o, none⟩ : Addr).add k = ⟨b, o + k, none⟩ := by unfold Addr.add; split <;> simp_all

theorem PS.fieldAddr {s i off : Nat} [F : FldA P s i off] {x : Operand} {b o : Nat} (hg : gd ops n env g = some true) (hx : ev n env x = some (.pointer (some ⟨b, o, none⟩))) :
    PS P ops n env L ⟨dst, .fieldAddr s x i, ty, pos, aft, g⟩ (.pointer (some ⟨b, o + off, none⟩)) := by
  obtain ⟨fs, f, k, hu, hf, ho, hs⟩ := F.fld
  exact ⟨hg, (fun a w hfr _ => by simp [execOp, hfr.eval hx, Instr.fieldAt, run_underlying hu, hf, Instr.sureAddr, fieldPlace, hs w, ho, addr_add])⟩
theorem PS.indexAddr {t e sz : Nat} [E : ElemA P t e sz] {x y : Operand} {b o len cap j : Nat} {k : IntKind} {i : Int} (hg : gd ops n env g = some true) (hx : ev n env x = some (.slice (some ⟨b, o, none⟩) len cap))
    (hy : ev n env y = some (.int k i)) (hi : i = (j : Int)) (hl : j < len) :
    PS P ops n env L ⟨dst, .indexAddr t x y, ty, pos, aft, g⟩ (.pointer (some ⟨b, o + j * sz, none⟩)) := by
  subst hi
  exact ⟨hg, (fun a w hfr _ => by simp [execOp, hfr.eval hx, hfr.eval hy, Instr.indexAt, asIntOf, run_underlying E.under, E.size w, hl, addr_add])⟩
theorem PS.indexArr {t len e sz : Nat} [E : ArrA P t len e sz] {x y : Operand} {b o j : Nat} {k : IntKind} {i : Int} (hg : gd ops n env g = some true) (hx : ev n env x = some (.pointer (some ⟨b, o, none⟩)))
    (hy : ev n env y = some (.int k i)) (hi : i = (j : Int)) (hl : j < len) :
    PS P ops n env L ⟨dst, .indexAddr t x y, ty, pos, aft, g⟩ (.pointer (some ⟨b, o + j * sz, none⟩)) := by
  subst hi
  exact ⟨hg, (fun a w hfr _ => by simp [execOp, hfr.eval hx, hfr.eval hy, Instr.indexAt, asIntOf, run_underlying E.under, E.size w, hl, addr_add, Instr.sureAddr])⟩
theorem PS.load {t : Nat} [S : TyS P t] {x : Operand} {b o : Nat} {v : Value} (hg : gd ops n env g = some true) (hx : ev n env x = some (.pointer (some ⟨b, o, none⟩))) (hc : CellAt L b o v) :
    PS P ops n env L ⟨dst, .load t x, ty, pos, aft, g⟩ (v) :=
  ⟨hg, (fun a w hfr hs => by
    obtain ⟨cs, bt, fr, e, hv⟩ := hc _ hs
    simp [execOp, hfr.eval hx, Instr.loadAt, Instr.sureAddr, run_loadVarS (P := P) (t := t) (cell_ph e hv)])⟩
theorem PS.loadG {t sz : Nat} [G : TyG P t sz] {x : Operand} {b o : Nat} {vs : List Value} (hg : gd ops n env g = some true) (hx : ev n env x = some (.pointer (some ⟨b, o, none⟩))) (hc : CellsAt L b o vs) (hl : vs.length = sz) :
    PS P ops n env L ⟨dst, .load t x, ty, pos, aft, g⟩ (.agg vs.toArray) :=
  ⟨hg, (fun a w hfr hs => by
    obtain ⟨cs, bt, fr, e, hv⟩ := hc _ hs
    simp [execOp, hfr.eval hx, Instr.loadAt, Instr.sureAddr, run_loadVarG (P := P) (t := t) hl (fun j v hj => cell_ph e (hv j v hj))])⟩
/-- A store of a value of so many cells into a block that is known whole. -/
theorem CX.storeC {t sz : Nat} [Z : SzT P t sz] {x y : Operand} {b o bt : Nat} {cs : List Value} {v : Value} {L' : List Assn} (hg : gd ops n env g = some true) (hx : ev n env x = some (.pointer (some ⟨b, o, none⟩)))
    (hy : ev n env y = some v) (hv : v.cells.size = sz) (ho : ∀ u ∈ v.cells.toList, u.oneCell' = true) (hu : Upd (bk b bt cs) (bk b bt (setL cs o v.cells.toList)) L L') (hl : o + sz ≤ cs.length)
    (h : CX P ops Q n e0 (putE env dst undef) L' rest) : CX P ops Q n e0 env L (⟨dst, .store t x y, ty, pos, aft, g⟩ :: rest) := by
  refine CX.step hg fun a w hf hs he K hK => ?_
  obtain ⟨M, pa, _⟩ := hu.pick
  have e := bk_ok.1 (pa.ok hs)
  obtain ⟨w', hr, hph, he'⟩ := run_storeCells_ph (P := P) o v.cells.toList 0 cs w e (by simp [hv]; exact hl) (.inr (Nat.le_refl _)) ho
  have hrun : (execOp a.eval ⟨dst, .store t x y, ty, pos, aft, g⟩).run P w = .ok .skip w' := by
    simp [execOp, hf.eval hx, hf.eval hy, Instr.storeAt, Instr.sureAddr, storeVar, Z.size w, hv, hr]
  unfold Oper.wp
  rw [hrun]
  refine hK _ _ (h _ _ (hf.put dst undef) ?_ (he.trans he'))
  rw [hph]
  refine Sep.upd hu (fun k hok => ?_) (fun k hk hok => ?_) hs
  · simp [bk_ok.1 hok]
  · exact bk_ok.2 (by simp [PH.put])

theorem setL_one (cs : List Value) (o : Nat) (v : Value) (h : o < cs.length) : setL cs o [v] = cs.set o v := by
  have := setL_cons cs o v [] (by simp; omega)
  rw [setL_nil] at this; exact this.symm

theorem CX.store {t : Nat} [Z : SzT P t 1] {x y : Operand} {b o bt : Nat} {cs : List Value} {v : Value} {L' : List Assn} (hg : gd ops n env g = some true) (hx : ev n env x = some (.pointer (some ⟨b, o, none⟩)))
    (hy : ev n env y = some v) (hv : v.oneCell' = true) (hu : Upd (bk b bt cs) (bk b bt (cs.set o v)) L L') (hl : Nat.blt o cs.length = true)
    (h : CX P ops Q n e0 (putE env dst undef) L' rest) : CX P ops Q n e0 env L (⟨dst, .store t x y, ty, pos, aft, g⟩ :: rest) := by
  have hl' : o < cs.length := by have := Nat.le_of_ble_eq_true hl; omega
  have hc : v.cells = #[v] := by cases v <;> simp_all [Value.cells, Value.oneCell']
  refine CX.storeC (Z := Z) (cs := cs) (bt := bt) hg hx hy (by rw [hc]; rfl) (fun u hu => ?_) ?_ (by omega) h
  · rw [hc] at hu; simp at hu; rw [hu]; exact hv
  · rw [hc]; simp only [setL_one cs o v hl']; exact hu

theorem CX.alloc {t : Nat} {v : Value} [Z : ZeroA P t v] (hg : gd ops n env g = some true)
    (h : ∀ b, CX P ops Q n e0 (putE env dst (.pointer (some ⟨b, 0, none⟩))) (bk b t v.cells.toList :: L) rest) : CX P ops Q n e0 env L (⟨dst, .alloc t, ty, pos, aft, g⟩ :: rest) := by
  refine CX.step hg fun a w hf hs he K hK => ?_
  have hrun : (execOp a.eval ⟨dst, .alloc t, ty, pos, aft, g⟩).run P w = .ok (.value (.pointer (some ⟨w.heap.size, 0, none⟩))) (w.alloc (.cells v.cells t)) := by
    simp [execOp, Instr.alloc, Z.zero w, newVar, newRow, newObj, Sem.run]
  unfold Oper.wp
  rw [hrun]
  refine hK _ _ (h w.heap.size _ _ (hf.put dst _) ?_ (he.trans ⟨rfl, rfl, rfl⟩))
  have := hs.alloc t v.cells.toList
  simpa using this
theorem CX.box {t : Nat} {x : Operand} {v : Value} (hg : gd ops n env g = some true) (hx : ev n env x = some v)
    (h : ∀ b, CX P ops Q n e0 (putE env dst (.pointer (some ⟨b, 0, none⟩))) (bk b t v.cells.toList :: L) rest) : CX P ops Q n e0 env L (⟨dst, .box t x, ty, pos, aft, g⟩ :: rest) := by
  refine CX.step hg fun a w hf hs he K hK => ?_
  have hrun : (execOp a.eval ⟨dst, .box t x, ty, pos, aft, g⟩).run P w = .ok (.value (.pointer (some ⟨w.heap.size, 0, none⟩))) (w.alloc (.cells v.cells t)) := by
    simp [execOp, hf.eval hx, Instr.box, newVar, newRow, newObj, Sem.run]
  unfold Oper.wp
  rw [hrun]
  refine hK _ _ (h w.heap.size _ _ (hf.put dst _) ?_ (he.trans ⟨rfl, rfl, rfl⟩))
  have := hs.alloc t v.cells.toList
  simpa using this

/-! ### Built-in functions -/
theorem PS.lenSl {t : TypeId} {e sz : Nat} [E : ElemA P t e sz] {x : Operand} {a0 : Option Addr} {l c : Nat} (hg : gd ops n env g = some true) (hx : ev n env x = some (.slice a0 l c)) :
    PS P ops n env L ⟨dst, .call ⟨.builtin .len, #[x], #[t]⟩, ty, pos, aft, g⟩ (.int .i64 (l : Int)) :=
  ⟨hg, (fun a w hfr _ => by simp [execOp, resolve, hfr.eval hx, invoke, builtin, Builtin.len_, run_underlying E.under, goInt])⟩
theorem PS.capSl {t : TypeId} {e sz : Nat} [E : ElemA P t e sz] {x : Operand} {a0 : Option Addr} {l c : Nat} (hg : gd ops n env g = some true) (hx : ev n env x = some (.slice a0 l c)) :
    PS P ops n env L ⟨dst, .call ⟨.builtin .cap, #[x], #[t]⟩, ty, pos, aft, g⟩ (.int .i64 (c : Int)) :=
  ⟨hg, (fun a w hfr _ => by simp [execOp, resolve, hfr.eval hx, invoke, builtin, Builtin.cap_, run_underlying E.under, goInt])⟩
theorem PS.maxI {ts : Array TypeId} {x y : Operand} {k : IntKind} {p q : Int} (hg : gd ops n env g = some true) (hx : ev n env x = some (.int k p)) (hy : ev n env y = some (.int k q)) :
    PS P ops n env L ⟨dst, .call ⟨.builtin .max, #[x, y], ts⟩, ty, pos, aft, g⟩ (.int k (Max.max p q)) :=
  ⟨hg, (fun a w hfr _ => by
    have : (if q > p then q else p) = Max.max p q := by omega
    simp [execOp, resolve, hfr.eval hx, hfr.eval hy, invoke, builtin, Builtin.max_, Builtin.max2, this])⟩
theorem PS.minI {ts : Array TypeId} {x y : Operand} {k : IntKind} {p q : Int} (hg : gd ops n env g = some true) (hx : ev n env x = some (.int k p)) (hy : ev n env y = some (.int k q)) :
    PS P ops n env L ⟨dst, .call ⟨.builtin .min, #[x, y], ts⟩, ty, pos, aft, g⟩ (.int k (Min.min p q)) :=
  ⟨hg, (fun a w hfr _ => by
    have : (if q < p then q else p) = Min.min p q := by omega
    simp [execOp, resolve, hfr.eval hx, hfr.eval hy, invoke, builtin, Builtin.min_, Builtin.min2, this])⟩
/-! ### Comparisons with nil -/
theorem run_eqP {t d : TypeId} (hu : P.underlying t = some (.pointer d)) (v : Option Addr) (w : World) : (Go.binOp .eql t (.pointer v) (.pointer none)).run P w = .ok (.bool v.isNone) w := by
  have h : ∀ k : Nat, (Op.equalIn (k + 1) t (.pointer v) (.pointer none)).run P w = .ok v.isNone w := fun k => by cases v <;> simp [Op.equalIn, run_underlying hu]
  simp only [Go.binOp]
  simp [Op.equal, Op.maxDepth, h 9999]
theorem run_neP {t d : TypeId} (hu : P.underlying t = some (.pointer d)) (v : Option Addr) (w : World) : (Go.binOp .neq t (.pointer v) (.pointer none)).run P w = .ok (.bool v.isSome) w := by
  have h : ∀ k : Nat, (Op.equalIn (k + 1) t (.pointer v) (.pointer none)).run P w = .ok v.isNone w := fun k => by cases v <;> simp [Op.equalIn, run_underlying hu]
  simp only [Go.binOp]
  simp [Op.equal, Op.maxDepth, h 9999]
theorem run_eqS {t e : TypeId} (hu : P.underlying t = some (.slice e)) (v : Option Addr) (l c : Nat) (w : World) : (Go.binOp .eql t (.slice v l c) (.slice none 0 0)).run P w = .ok (.bool v.isNone) w := by
  have h : ∀ k : Nat, (Op.equalIn (k + 1) t (.slice v l c) (.slice none 0 0)).run P w = .ok v.isNone w := fun k => by cases v <;> simp [Op.equalIn, run_underlying hu]
  simp only [Go.binOp]
  simp [Op.equal, Op.maxDepth, h 9999]
theorem eval_const (a : Act) (v : Value) : a.eval (.const v) = v := rfl
theorem PS.eqlPtrNil {t u : TypeId} {d : Nat} [E : PtrA P t d] {x : Operand} {v : Option Addr} (hg : gd ops n env g = some true) (hx : ev n env x = some (.pointer v)) :
    PS P ops n env L ⟨dst, .binOp .eql t x (.const (.pointer none)) u, ty, pos, aft, g⟩ (.bool v.isNone) :=
  ⟨hg, (fun a w hfr _ => by simp [execOp, hfr.eval hx, eval_const, eqGuard, run_eqP E.hu])⟩
theorem PS.neqPtrNil {t u : TypeId} {d : Nat} [E : PtrA P t d] {x : Operand} {v : Option Addr} (hg : gd ops n env g = some true) (hx : ev n env x = some (.pointer v)) :
    PS P ops n env L ⟨dst, .binOp .neq t x (.const (.pointer none)) u, ty, pos, aft, g⟩ (.bool v.isSome) :=
  ⟨hg, (fun a w hfr _ => by simp [execOp, hfr.eval hx, eval_const, eqGuard, run_neP E.hu])⟩
theorem PS.eqlSlNil {t e sz : Nat} [E : ElemA P t e sz] {u : TypeId} {x : Operand} {v : Option Addr} {l c : Nat} (hg : gd ops n env g = some true) (hx : ev n env x = some (.slice v l c)) :
    PS P ops n env L ⟨dst, .binOp .eql t x (.const (.slice none 0 0)) u, ty, pos, aft, g⟩ (.bool v.isNone) :=
  ⟨hg, (fun a w hfr _ => by simp [execOp, hfr.eval hx, eval_const, eqGuard, run_eqS E.under])⟩
end
end Go.Cx
/-! Stepping: control, calls, contracts. No program in sight. -/
namespace Go.Cx

/-- How a call ends: a value, and what is known of the memory then, x untouched. -/
def CtrR (x : PH) (w : World) (post : Value → List Assn → Prop) (e : Ending) (w' : World) : Prop :=
  ∃ v H, post v H ∧ e = .returned v ∧ Sep (H ++ [exact x]) w'.ph ∧ Env0 w w'

/-- A contract: of a memory part of which H tells, and of the rest of which pre holds. -/
def Ctr (P : Program) (f : FuncId) (args : List Value) (H : List Assn) (pre : PH → Prop) (post : Value → List Assn → Prop) : Prop :=
  ∀ x w, Sep (H ++ [exact x]) w.ph → pre x → Calls P f args.toArray w (CtrR x w post)

theorem Ctr.mono {P : Program} {f : FuncId} {args : List Value} {H : List Assn} {pre pre' : PH → Prop} {post post' : Value → List Assn → Prop}
    (s : Ctr P f args H pre post) (hp : ∀ x, pre' x → pre x) (hq : ∀ v M, post v M → post' v M) : Ctr P f args H pre' post' :=
  fun x w hs h => (s x w hs (hp x h)).mono fun e w' ⟨v, M, a, b, c, d⟩ => ⟨v, M, hq v M a, b, c, d⟩

def argE : List Value → Nat → Env
  | [], _ => []
  | v :: r, i => (i, v) :: argE r (i + 1)

theorem look_argE : ∀ (l : List Value) (i t : Nat) (v : Value), look (argE l i) t = some v → ∃ j, t = i + j ∧ l[j]? = some v
  | [], _, _, _, h => by cases h
  | u :: r, i, t, v, h => by
    simp only [argE, look] at h
    split at h
    · rename_i e; exact ⟨0, by omega, by simpa using h⟩
    · obtain ⟨j, e, hj⟩ := look_argE r (i + 1) t v h
      exact ⟨j + 1, by omega, by simpa using hj⟩

theorem Ctr.intro {P : Program} {f : FuncId} {fn : Func} {c : Code} {args : List Value} {H : List Assn} {pre : PH → Prop} {post : Value → List Assn → Prop} {n : Nat}
    (hf : P.funcs[f]? = some fn) (hb : fn.body = some c) (hn : fn.ntmps = n) (hl : Nat.ble args.length n = true)
    (h : ∀ x w, pre x → CC P c (bodyPost P fn (CtrR x w post)) n w (argE args 0) (H ++ [exact x])) : Ctr P f args H pre post := by
  intro x w hs hp
  have hl' := Nat.le_of_ble_eq_true hl
  refine calls_of_wp hf hb (h x w hp _ w ⟨rfl, ?_, fun t v ht hlk => ?_⟩ hs (Env0.refl w))
  · simp [hn]; omega
  · obtain ⟨j, e, hj⟩ := look_argE _ _ _ _ hlk
    have hjl : j < args.length := (List.getElem?_eq_some_iff.1 hj).1
    subst e
    simp only [Nat.zero_add, Array.getD_eq_getD_getElem?]
    rw [Array.getElem?_append_left (by simpa using hjl)]
    simp [hj]

def evs (n : Nat) (env : Env) : List Operand → Option (List Value)
  | [] => some []
  | x :: r => match ev n env x, evs n env r with
    | some v, some vs => some (v :: vs)
    | _, _ => none

theorem Fr.evals {n : Nat} {env : Env} {a : Act} (f : Fr n env a) : ∀ {xs : List Operand} {vs : List Value}, evs n env xs = some vs → xs.map a.eval = vs
  | [], vs, h => by simp [evs] at h; simp [h]
  | x :: r, vs, h => by
    simp only [evs] at h
    split at h
    · rename_i v us h1 h2
      cases h
      simp [f.eval h1, f.evals h2]
    · cases h

section
variable {P : Program} {ops : Array Oper} {Q : Exit → Act → World → Prop} {n : Nat} {e0 : World} {env : Env} {L : List Assn} {rest : List Oper}
variable {dst : Option Tmp} {ty : TypeId} {pos : String} {aft : Array Edge} {g : Option (Nat × Bool)} {op : Op}

/-- A call that is carried out by a contract. -/
theorem CX.callBy {c : Call} {f : FuncId} {args : List Value} {H L' : List Assn} {pre : PH → Prop} {post : Value → List Assn → Prop} (hg : gd ops n env g = some true)
    (hr : ∀ a w, Fr n env a → (execOp a.eval ⟨dst, .call c, ty, pos, aft, g⟩).run P w = .ok (.enter f args.toArray) w)
    (S : Ctr P f args H pre post) (hsel : Sel L H L') (hpre : ∀ x, Sep L' x → pre x)
    (h : ∀ v M, post v M → CX P ops Q n e0 (putE env dst v) (M ++ L') rest) : CX P ops Q n e0 env L (⟨dst, .call c, ty, pos, aft, g⟩ :: rest) := by
  refine CX.step hg fun a w hf hs he K hK => ?_
  unfold Oper.wp
  rw [hr a w hf]
  obtain ⟨x, hx, hl⟩ := (hsel.sep hs).rest
  show Calls P f args.toArray w _
  refine (S x w hx (hpre x hl)).mono ?_
  rintro e w' ⟨v, M, hp, rfl, hs', he'⟩
  exact hK _ _ (h v M hp _ _ (hf.put dst v) (hs'.unrest hl) (he.trans he'))

theorem CX.call {f : FuncId} [F : HasFn P f] {xs : List Operand} {tys : Array TypeId} {args : List Value} {H L' : List Assn} {pre : PH → Prop} {post : Value → List Assn → Prop} (hg : gd ops n env g = some true)
    (hx : evs n env xs = some args) (S : Ctr P f args H pre post) (hsel : Sel L H L') (hpre : ∀ x, Sep L' x → pre x)
    (h : ∀ v M, post v M → CX P ops Q n e0 (putE env dst v) (M ++ L') rest) : CX P ops Q n e0 env L (⟨dst, .call ⟨.value (.func f), xs.toArray, tys⟩, ty, pos, aft, g⟩ :: rest) :=
  CX.callBy hg (fun a w hf => by
    have := hf.evals hx
    simp [execOp, resolve, Act.eval, Deferred.ofValue, invoke, F.call]
    rw [← this]) S hsel hpre h

/-- A call of a function value. -/
theorem CX.callV {f : FuncId} [F : HasFn P f] {y : Operand} {first cap : Array Value} {xs : List Operand} {tys : Array TypeId} {args : List Value} {H L' : List Assn} {pre : PH → Prop} {post : Value → List Assn → Prop} (hg : gd ops n env g = some true)
    (hy : ev n env y = some (.func (.func f) first cap)) (hx : evs n env xs = some args) (S : Ctr P f (first.toList ++ args ++ cap.toList) H pre post) (hsel : Sel L H L') (hpre : ∀ x, Sep L' x → pre x)
    (h : ∀ v M, post v M → CX P ops Q n e0 (putE env dst v) (M ++ L') rest) : CX P ops Q n e0 env L (⟨dst, .call ⟨.value y, xs.toArray, tys⟩, ty, pos, aft, g⟩ :: rest) :=
  CX.callBy hg (fun a w hf => by
    have hm := hf.evals hx
    have hv := hf.eval hy
    simp [execOp, resolve, hv, Deferred.ofValue, invoke, F.call]
    rw [← hm]) S hsel hpre h

theorem PS.makeFunc {fn : Fn} {xs ys : List Operand} {fs cs : List Value} (hg : gd ops n env g = some true) (hx : evs n env xs = some fs) (hy : evs n env ys = some cs) :
    PS P ops n env L ⟨dst, .makeFunc fn xs.toArray ys.toArray, ty, pos, aft, g⟩ (.func fn fs.toArray cs.toArray) :=
  ⟨hg, (fun a w hf _ => by
    have h1 := hf.evals hx
    have h2 := hf.evals hy
    simp [execOp, Instr.makeFunc]
    rw [← h1, ← h2]; simp)⟩
/-! ### Code -/
theorem CC.seq {x y : Code} (h : CC P x (Exit.then (y.wp P Q) Q) n e0 env L) : CC P (.seq x y) Q n e0 env L := fun a w hf hs he => wp_seq (h a w hf hs he)
theorem CC.block {id : Nat} {c : Code} (h : CC P c (Exit.inBlock id Q) n e0 env L) : CC P (.block id c) Q n e0 env L := fun a w hf hs he => wp_block (h a w hf hs he)
theorem CC.region {id : Nat} {l : List Oper} (h : CX P l.toArray Q n e0 env L l) : CC P (.region id l.toArray false) Q n e0 env L := fun a w hf hs he => wp_region_lit (h a w hf hs he)
theorem CC.skip (h : CQ (Q .normal) n e0 env L) : CC P .skip Q n e0 env L := fun a w hf hs he => wp_skip (h a w hf hs he)
theorem CC.ret (h : CQ (Q .ret) n e0 env L) : CC P .ret Q n e0 env L := fun a w hf hs he => wp_ret (h a w hf hs he)
theorem CC.exit {id : Nat} (h : CQ (Q (.exit id)) n e0 env L) : CC P (.exit id) Q n e0 env L := fun a w hf hs he => wp_exit (h a w hf hs he)
theorem CC.condT {c : Operand} {x y : Code} (hc : ev n env c = some (.bool true)) (h : CC P x Q n e0 env L) : CC P (.cond c x y) Q n e0 env L := fun a w hf hs he => wp_cond_true (hf.eval hc) (h a w hf hs he)
theorem CC.condF {c : Operand} {x y : Code} (hc : ev n env c = some (.bool false)) (h : CC P y Q n e0 env L) : CC P (.cond c x y) Q n e0 env L := fun a w hf hs he => wp_cond_false (hf.eval hc) (h a w hf hs he)
theorem CC.condDT {c : Operand} {x y : Code} {p : Prop} {_ : Decidable p} (hc : ev n env c = some (.bool (decide p))) (hp : p) (h : CC P x Q n e0 env L) : CC P (.cond c x y) Q n e0 env L :=
  CC.condT (by rw [hc]; simp [hp]) h
theorem CC.condDF {c : Operand} {x y : Code} {p : Prop} {_ : Decidable p} (hc : ev n env c = some (.bool (decide p))) (hp : ¬ p) (h : CC P y Q n e0 env L) : CC P (.cond c x y) Q n e0 env L :=
  CC.condF (by rw [hc]; simp [hp]) h
/-- What is known is weakened: temporaries are let go, parts of the memory too. -/
theorem CC.weak {c : Code} {env' : Env} {L' M : List Assn} (hs : Sub env env') (hl : Sel L L' M) (h : CC P c Q n e0 env' L') : CC P c Q n e0 env L :=
  fun a w hf hsep he => h a w (hf.sub hs) (hl.sep hsep).left he
theorem CX.weak {env' : Env} {L' M : List Assn} (hs : Sub env env') (hl : Sel L L' M) (h : CX P ops Q n e0 env' L' rest) : CX P ops Q n e0 env L rest :=
  fun a w hf hsep he => h a w (hf.sub hs) (hl.sep hsep).left he
theorem CC.mem {c : Code} {L' : List Assn} (hl : ∀ h, Sep L h → Sep L' h) (h : CC P c Q n e0 env L') : CC P c Q n e0 env L :=
  fun a w hf hsep he => h a w hf (hl _ hsep) he
theorem CX.mem {L' : List Assn} (hl : ∀ h, Sep L h → Sep L' h) (h : CX P ops Q n e0 env L' rest) : CX P ops Q n e0 env L rest :=
  fun a w hf hsep he => h a w hf (hl _ hsep) he
/-- Facts that the memory gives. -/
theorem CC.fact {c : Code} {p : Prop} (hp : ∀ h, Sep L h → p) (h : p → CC P c Q n e0 env L) : CC P c Q n e0 env L :=
  fun a w hf hs he => h (hp _ hs) a w hf hs he
theorem CX.fact {p : Prop} (hp : ∀ h, Sep L h → p) (h : p → CX P ops Q n e0 env L rest) : CX P ops Q n e0 env L rest :=
  fun a w hf hs he => h (hp _ hs) a w hf hs he
theorem CC.loop {c : Code} {X : Type} (E : X → Env) (M : X → List Assn) (good : X → Prop) (μ : X → Nat) (x0 : X) (h0 : good x0) (hs : Sub env (E x0)) {R : List Assn} (hl : Sel L (M x0) R)
    (round : ∀ x, good x → CC P c (Exit.then (fun a w => ∃ y, (good y ∧ μ y < μ x) ∧ Fr n (E y) a ∧ Sep (M y) w.ph ∧ Env0 e0 w) Q) n e0 (E x) (M x)) : CC P (.loop c) Q n e0 env L := by
  intro a w hf hsep he
  have key : ∀ m, ∀ x, μ x = m → ∀ a w, good x → Fr n (E x) a → Sep (M x) w.ph → Env0 e0 w → (Code.loop c).wp P Q a w := by
    intro m x hm a w hg hf hs he b k cs
    have inner : ∀ m x a w, μ x = m → good x → Fr n (E x) a → Sep (M x) w.ph → Env0 e0 w →
        ∃ e a' w', Q e a' w' ∧ Arrives P (lone (b.at a (.code c :: .inLoop c :: k)) cs w) b k cs e a' w' := by
      intro m
      induction m using Nat.strongRecOn with
      | _ m ih =>
        intro x a w hm hg hf hs he
        obtain ⟨e, a₁, w₁, hq, harr⟩ := round x hg a w hf hs he b (.inLoop c :: k) cs
        cases e with
        | normal =>
          obtain ⟨y, ⟨hy, hlt⟩, hf', hs', he'⟩ := hq
          obtain ⟨e₂, a₂, w₂, hq₂, harr₂⟩ := ih (μ y) (hm ▸ hlt) y a₁ w₁ rfl hy hf' hs' he'
          exact ⟨e₂, a₂, w₂, hq₂, .of_steps (Steps.trans harr (.one step_inLoop)) harr₂⟩
        | exit id => exact ⟨_, a₁, w₁, hq, .pass (x := .inLoop c) rfl (fun _ _ => .inl (by simp)) harr⟩
        | goto l => exact ⟨_, a₁, w₁, hq, .pass (x := .inLoop c) rfl (fun _ _ => .inl (by simp)) harr⟩
        | ret => exact ⟨_, a₁, w₁, hq, .pass (x := .inLoop c) rfl (fun _ _ => .inl (by simp)) harr⟩
        | panic ch => exact ⟨_, a₁, w₁, hq, .pass (x := .inLoop c) rfl (fun _ _ => .inl (by simp)) harr⟩
        | outgrown => exact ⟨_, a₁, w₁, hq, .pass (x := .inLoop c) rfl (fun _ _ => .inl (by simp)) harr⟩
    obtain ⟨e, a', w', hq, harr⟩ := inner _ x a w rfl hg hf hs he
    exact ⟨e, a', w', hq, .of_steps (.one step_loop) harr⟩
  exact key _ x0 rfl a w h0 (hf.sub hs) (hl.sep hsep).left he

/-- The end of a round. -/
theorem CQ.round {X : Type} {E : X → Env} {M : X → List Assn} {good : X → Prop} {μ : X → Nat} {x : X} {Q : Exit → Act → World → Prop} (y : X) (hg : good y) (hμ : μ y < μ x) (hs : Sub env (E y)) {R : List Assn} (hl : Sel L (M y) R) :
    CQ (Exit.then (fun a w => ∃ y, (good y ∧ μ y < μ x) ∧ Fr n (E y) a ∧ Sep (M y) w.ph ∧ Env0 e0 w) Q .normal) n e0 env L :=
  fun a w hf hsep he => ⟨y, ⟨hg, hμ⟩, hf.sub hs, (hl.sep hsep).left, he⟩

theorem CQ.thenN {y : Code} {Q' : Exit → Act → World → Prop} (h : CC P y Q n e0 env L) : CQ (Exit.then (y.wp P Q) Q' .normal) n e0 env L := h
theorem CQ.thenR {K : Act → World → Prop} (h : CQ (Q .ret) n e0 env L) : CQ (Exit.then K Q .ret) n e0 env L := h
theorem CQ.thenX {K : Act → World → Prop} {id : Nat} (h : CQ (Q (.exit id)) n e0 env L) : CQ (Exit.then K Q (.exit id)) n e0 env L := h
theorem CQ.blockN {id : Nat} (h : CQ (Q .normal) n e0 env L) : CQ (Exit.inBlock id Q .normal) n e0 env L := h
theorem CQ.blockR {id : Nat} (h : CQ (Q .ret) n e0 env L) : CQ (Exit.inBlock id Q .ret) n e0 env L := h
theorem CQ.blockX {id : Nat} (h : CQ (Q .normal) n e0 env L) : CQ (Exit.inBlock id Q (.exit id)) n e0 env L := fun a w hf hs he => by
  simp only [Exit.inBlock, if_true]; exact h a w hf hs he
theorem CQ.blockY {id id' : Nat} (hne : Nat.beq id' id = false) (h : CQ (Q (.exit id')) n e0 env L) : CQ (Exit.inBlock id Q (.exit id')) n e0 env L := fun a w hf hs he => by
  have : id' ≠ id := fun e => by subst e; simp at hne
  simp only [Exit.inBlock, if_neg this]; exact h a w hf hs he

/-! ### The end -/
variable {fn : Func} {x : PH} {post : Value → List Assn → Prop}
/-- What a result variable holds. -/
inductive RV (P : Program) (n : Nat) (env : Env) (L : List Assn) : ResultVar → Value → Prop
  | tmp {t : Tmp} {v : Value} (h : ev n env (.tmp t) = some v) : RV P n env L (.tmp t) v
  | cell {t : Tmp} {ty b o : Nat} {v : Value} (S : TyS P ty) (h : ev n env (.tmp t) = some (.pointer (some ⟨b, o, none⟩))) (hc : CellAt L b o v) : RV P n env L (.cell t ty) v
  | cells {t : Tmp} {ty b o sz : Nat} {vs : List Value} (G : TyG P ty sz) (h : ev n env (.tmp t) = some (.pointer (some ⟨b, o, none⟩))) (hc : CellsAt L b o vs) (hl : vs.length = sz) : RV P n env L (.cell t ty) (.agg vs.toArray)

def RVr (P : Program) (a : Act) (w : World) (v : Value) : ResultVar → Prop
  | .tmp t => a.tmps.getD t undef = v
  | .cell p ty => ∃ ad, a.tmps.getD p undef = .pointer (some ad) ∧ (loadVar ty ad).run P w = .ok v w
theorem RV.run {rv : ResultVar} {v : Value} (r : RV P n env L rv v) {a : Act} {w : World} (hf : Fr n env a) (hs : Sep L w.ph) : RVr P a w v rv := by
  cases r with
  | tmp h => exact hf.eval h
  | cell S h hc =>
    obtain ⟨cs, bt, fr, e, hv⟩ := hc _ hs
    exact ⟨_, hf.eval h, run_loadVarS (P := P) (cell_ph e hv)⟩
  | cells G h hc hl =>
    obtain ⟨cs, bt, fr, e, hv⟩ := hc _ hs
    exact ⟨_, hf.eval h, run_loadVarG (P := P) hl (fun j v hj => cell_ph e (hv j v hj))⟩
theorem fin0 {a : Act} (hr : fn.results = #[]) (w : World) : (results fn a.tmps).run P w = .ok (.tuple #[]) w := results_none hr _ _ _
theorem fin1 {a : Act} {w : World} {r : ResultVar} {v : Value} (hr : fn.results = #[r]) (h : RV P n env L r v) (hf : Fr n env a) (hs : Sep L w.ph) : (results fn a.tmps).run P w = .ok v w := by
  have h1 := h.run hf hs
  cases r <;> simp only [RVr, Array.getD_eq_getD_getElem?] at h1
  · simp [results, hr, h1]
  · obtain ⟨ad, e, l⟩ := h1; simp [results, hr, e, l, asAddr]
theorem fin2 {a : Act} {w : World} {r s : ResultVar} {v u : Value} (hr : fn.results = #[r, s]) (h : RV P n env L r v) (k : RV P n env L s u) (hf : Fr n env a) (hs : Sep L w.ph) : (results fn a.tmps).run P w = .ok (.tuple #[v, u]) w := by
  have h1 := h.run hf hs
  have h2 := k.run hf hs
  cases r <;> cases s <;> simp only [RVr, Array.getD_eq_getD_getElem?] at h1 h2
  · simp [results, hr, h1, h2]
  · obtain ⟨ad, e, l⟩ := h2; simp [results, hr, h1, e, l, asAddr]
  · obtain ⟨ad, e, l⟩ := h1; simp [results, hr, h2, e, l, asAddr]
  · obtain ⟨ad, e, l⟩ := h1; obtain ⟨ad', e', l'⟩ := h2; simp [results, hr, e', l', e, l, asAddr]
theorem fin3 {a : Act} {w : World} {r s t : ResultVar} {v u z : Value} (hr : fn.results = #[r, s, t]) (h : RV P n env L r v) (k : RV P n env L s u) (l : RV P n env L t z) (hf : Fr n env a) (hs : Sep L w.ph) : (results fn a.tmps).run P w = .ok (.tuple #[v, u, z]) w := by
  have h1 := h.run hf hs
  have h2 := k.run hf hs
  have h3 := l.run hf hs
  cases r <;> cases s <;> cases t <;> simp only [RVr, Array.getD_eq_getD_getElem?] at h1 h2 h3
  · simp [results, hr, h1, h2, h3]
  · obtain ⟨ad, e, l⟩ := h3; simp [results, hr, h1, h2, e, l, asAddr]
  · obtain ⟨ad, e, l⟩ := h2; simp [results, hr, h1, h3, e, l, asAddr]
  · obtain ⟨ad, e, l⟩ := h2; obtain ⟨ad', e', l'⟩ := h3; simp [results, hr, h1, e', l', e, l, asAddr]
  · obtain ⟨ad, e, l⟩ := h1; simp [results, hr, h2, h3, e, l, asAddr]
  · obtain ⟨ad, e, l⟩ := h1; obtain ⟨ad', e', l'⟩ := h3; simp [results, hr, h2, e', l', e, l, asAddr]
  · obtain ⟨ad, e, l⟩ := h1; obtain ⟨ad', e', l'⟩ := h2; simp [results, hr, h3, e', l', e, l, asAddr]
  · obtain ⟨ad, e, l⟩ := h1; obtain ⟨ad', e', l'⟩ := h2; obtain ⟨ad2, e2, l2⟩ := h3; simp [results, hr, e', l', e, l, e2, l2, asAddr]
theorem CQ.end0 {M R : List Assn} (hr : fn.results = #[]) (hp : post (.tuple #[]) M) (hl : Sel L (M ++ [exact x]) R) : CQ (bodyPost P fn (CtrR x e0 post) .normal) n e0 env L :=
  fun a w hf hs he => ⟨hf.defers, _, fin0 hr w, _, M, hp, rfl, (hl.sep hs).left, he⟩
theorem CQ.end1 {M R : List Assn} {r : ResultVar} {v : Value} (hr : fn.results = #[r]) (h : RV P n env L r v) (hp : post v M) (hl : Sel L (M ++ [exact x]) R) : CQ (bodyPost P fn (CtrR x e0 post) .ret) n e0 env L :=
  fun a w hf hs he => ⟨hf.defers, _, fin1 hr h hf hs, _, M, hp, rfl, (hl.sep hs).left, he⟩
theorem CQ.end2 {M R : List Assn} {r s : ResultVar} {v u : Value} (hr : fn.results = #[r, s]) (h : RV P n env L r v) (k : RV P n env L s u) (hp : post (.tuple #[v, u]) M) (hl : Sel L (M ++ [exact x]) R) : CQ (bodyPost P fn (CtrR x e0 post) .ret) n e0 env L :=
  fun a w hf hs he => ⟨hf.defers, _, fin2 hr h k hf hs, _, M, hp, rfl, (hl.sep hs).left, he⟩
theorem CQ.end3 {M R : List Assn} {r s t : ResultVar} {v u z : Value} (hr : fn.results = #[r, s, t]) (h : RV P n env L r v) (k : RV P n env L s u) (l : RV P n env L t z) (hp : post (.tuple #[v, u, z]) M) (hl : Sel L (M ++ [exact x]) R) : CQ (bodyPost P fn (CtrR x e0 post) .ret) n e0 env L :=
  fun a w hf hs he => ⟨hf.defers, _, fin3 hr h k l hf hs, _, M, hp, rfl, (hl.sep hs).left, he⟩
end
end Go.Cx
/-! Stepping: slices that are owned, append, copy, slice expressions, arrays. No program in sight. -/
namespace Go.Cx

class InfA (P : Program) (e : TypeId) (sz bytes : outParam Nat) (z : outParam Value) : Prop where
  inf : (P.info? e).map (fun i => (i.zero, i.size, i.bytes)) = some (some z, sz, bytes)
  zs : z.cells.size = sz
  pos : 0 < sz
  bpos : 0 < bytes

/-- A slice of whose array we may dispose: its elements' cells are xs; nil has no elements. -/
@[irreducible] def own (e sz : Nat) (a : Option Addr) (n cap : Nat) (xs : List Value) : Assn where
  ok h := xs.length = n * sz ∧ n ≤ cap ∧ cap ≤ maxLen ∧
    ((a = none ∧ cap = 0) ∨ ∃ g cur, a = some ⟨g, 0, none⟩ ∧ h g = some (.cells cur e (0, 0)) ∧ cur.size = cap * sz ∧ cur.toList.take (n * sz) = xs)
  mono := fun _ _ l ⟨h1, h2, h3, h4⟩ => ⟨h1, h2, h3, h4.imp id fun ⟨g, cur, e1, e2, e3⟩ => ⟨g, cur, e1, l _ _ e2, e3⟩⟩

theorem own_ok {e sz n cap : Nat} {a : Option Addr} {xs : List Value} {h : PH} : (own e sz a n cap xs).ok h ↔ xs.length = n * sz ∧ n ≤ cap ∧ cap ≤ maxLen ∧
    ((a = none ∧ cap = 0) ∨ ∃ g cur, a = some ⟨g, 0, none⟩ ∧ h g = some (.cells cur e (0, 0)) ∧ cur.size = cap * sz ∧ cur.toList.take (n * sz) = xs) := by
  unfold own; exact Iff.rfl

theorem own_row {e sz n cap : Nat} {a : Option Addr} {xs : List Value} {w : World} (h : (own e sz a n cap xs).ok w.ph) : w.ownsRow 0 e sz (.slice a n cap) n xs := by
  obtain ⟨h1, h2, h3, h4⟩ := own_ok.1 h
  refine ⟨h1, ?_⟩
  rcases h4 with ⟨rfl, rfl⟩ | ⟨g, cur, rfl, hg, hs, ht⟩
  · have : n = 0 := by omega
    subst this; exact .inl ⟨rfl, rfl⟩
  · exact .inr ⟨g, cap, cur, rfl, Nat.zero_le _, hg, h2, h3, hs, ht⟩

theorem own_of_row {e sz n : Nat} {v : Value} {xs : List Value} {w : World} (h : w.ownsRow 0 e sz v n xs) : ∃ a cap, v = .slice a n cap ∧
    ((a = none) ∨ ∃ g, a = some ⟨g, 0, none⟩) ∧ ∀ k : PH, (∀ g, a = some ⟨g, 0, none⟩ → k g = w.ph g) → (own e sz a n cap xs).ok k := by
  obtain ⟨h1, h2⟩ := h
  rcases h2 with ⟨rfl, rfl⟩ | ⟨g, cap, cur, rfl, _, hg, hn, hc, hs, ht⟩
  · exact ⟨none, 0, rfl, .inl rfl, fun k _ => own_ok.2 ⟨h1, Nat.le_refl _, Nat.zero_le _, .inl ⟨rfl, rfl⟩⟩⟩
  · exact ⟨_, cap, rfl, .inr ⟨g, rfl⟩, fun k hk => own_ok.2 ⟨h1, hn, hc, .inr ⟨g, cur, rfl, by rw [hk g rfl]; exact hg, hs, ht⟩⟩⟩

theorem Sep.replace {A A' : Assn} {L M : List Assn} {h h' : PH} (p : Pick A L M) (s : Sep L h)
    (hA : ∀ S, A.ok (h.only S) → ∃ S', A'.ok (h'.only S') ∧ Le (h.less S) (h'.less S')) : Sep (A' :: M) h' := by
  obtain ⟨S, a, b⟩ := p.sep s
  obtain ⟨S', a', l⟩ := hA S a
  exact ⟨S', a', b.mono l⟩

theorem Sep.ownNil (e sz : Nat) {L : List Assn} {h : PH} (s : Sep L h) : Sep (own e sz none 0 0 [] :: L) h :=
  ⟨fun _ => false, own_ok.2 ⟨by simp, Nat.le_refl _, Nat.zero_le _, .inl ⟨rfl, rfl⟩⟩, by
    have : h.less (fun _ => false) = h := by funext x; simp [PH.less]
    rw [this]; exact s⟩

/-- The cells of a slice's elements, to be read. -/
def RdS (L : List Assn) (b : Option Addr) (len : Nat) (news : List Value) : Prop :=
  (∀ u ∈ news, u.oneCell' = true) ∧
    ∀ h, Sep L h → news.length = len ∧ (len = 0 ∨ ∃ g off cs t fr, b = some ⟨g, off, none⟩ ∧ h g = some (.cells cs t fr) ∧ ∀ j u, news[j]? = some u → cs[off + j]? = some u)

theorem RdS.nil (L : List Assn) (b : Option Addr) : RdS L b 0 [] := ⟨by simp, fun _ _ => ⟨rfl, .inl rfl⟩⟩
theorem RdS.pick {L L' : List Assn} {b t o len : Nat} {cs news : List Value} (p : Pick (bk b t cs) L L') (hn : news.length = len) (h1 : ∀ u ∈ news, u.oneCell' = true) (hc : (cs.drop o).take len = news) : RdS L (some ⟨b, o, none⟩) len news := by
  refine ⟨h1, fun h s => ⟨hn, .inr ⟨b, o, _, _, _, rfl, bk_ok.1 (p.ok s), fun j v hv => ?_⟩⟩⟩
  have hj : j < len := by have := (List.getElem?_eq_some_iff.1 hv).1; omega
  rw [← hc, List.getElem?_take] at hv
  simpa [hj] using hv
theorem RdS.own {L L' : List Assn} {e sz n cap len : Nat} {a : Option Addr} {xs : List Value} (p : Pick (Cx.own e sz a n cap xs) L L') (h1 : ∀ u ∈ xs, u.oneCell' = true) (hk : n * sz = len) : RdS L a len xs := by
  subst hk
  refine ⟨h1, fun h s => ?_⟩
  obtain ⟨q1, q2, q3, q4⟩ := own_ok.1 (p.ok s)
  refine ⟨q1, ?_⟩
  rcases q4 with ⟨_, rfl⟩ | ⟨g, cur, rfl, hg, _, ht⟩
  · left; have : n = 0 := by omega
    simp [this]
  · refine .inr ⟨g, 0, cur, _, _, rfl, hg, fun j u hu => ?_⟩
    have hj : j < n * sz := by have := (List.getElem?_eq_some_iff.1 hu).1; omega
    rw [← ht, List.getElem?_take, if_pos hj] at hu
    simpa using hu
theorem RdS.exact {L L' : List Assn} {x : PH} {b : Option Addr} {len : Nat} {news : List Value} (p : Pick (exact x) L L') (h1 : ∀ u ∈ news, u.oneCell' = true) (hn : news.length = len)
    (hc : len = 0 ∨ ∃ g off cs t fr, b = some ⟨g, off, none⟩ ∧ x g = some (.cells cs t fr) ∧ ∀ j u, news[j]? = some u → cs[off + j]? = some u) : RdS L b len news :=
  ⟨h1, fun h s => ⟨hn, hc.imp id fun ⟨g, off, cs, t, fr, e1, e2, e3⟩ => ⟨g, off, cs, t, fr, e1, (p.ok s) _ _ e2, e3⟩⟩⟩

theorem CellAt.own {L L' : List Assn} {e sz n cap g o : Nat} {xs : List Value} {v : Value} (p : Pick (Cx.own e sz (some ⟨g, 0, none⟩) n cap xs) L L') (hv : xs[o]? = some v) : CellAt L g o v := fun h s => by
  obtain ⟨q1, q2, q3, q4⟩ := own_ok.1 (p.ok s)
  rcases q4 with ⟨hh, _⟩ | ⟨g', cur, e', hg, _, ht⟩
  · cases hh
  · simp only [Option.some.injEq, Addr.mk.injEq, and_true, true_and] at e'
    subst e'
    have hj : o < n * sz := by have := (List.getElem?_eq_some_iff.1 hv).1; omega
    rw [← ht, List.getElem?_take, if_pos hj] at hv
    exact ⟨cur, _, _, hg, by simpa using hv⟩
theorem CellsAt.own {L L' : List Assn} {e sz n cap g o : Nat} {xs vs : List Value} (p : Pick (Cx.own e sz (some ⟨g, 0, none⟩) n cap xs) L L') (hv : (xs.drop o).take vs.length = vs) : CellsAt L g o vs := fun h s => by
  obtain ⟨q1, q2, q3, q4⟩ := own_ok.1 (p.ok s)
  rcases q4 with ⟨hh, _⟩ | ⟨g', cur, e', hg, _, ht⟩
  · cases hh
  · simp only [Option.some.injEq, Addr.mk.injEq, and_true, true_and] at e'
    subst e'
    refine ⟨cur, _, _, hg, fun j v hj => ?_⟩
    have hl : j < vs.length := (List.getElem?_eq_some_iff.1 hj).1
    have hj' := hj
    rw [← hv, List.getElem?_take, if_pos hl, List.getElem?_drop] at hj'
    have hx : o + j < n * sz := by have := (List.getElem?_eq_some_iff.1 hj').1; omega
    rw [← ht, List.getElem?_take, if_pos hx] at hj'
    simpa using hj'
theorem CellsAt.of {L : List Assn} {b o : Nat} {vs : List Value} {len : Nat} (r : RdS L (some ⟨b, o, none⟩) len vs) (h0 : 0 < len) : CellsAt L b o vs := fun h s => by
  obtain ⟨_, q⟩ := r.2 h s
  rcases q with q | ⟨g, off, cs, t, fr, e, hg, hc⟩
  · omega
  · simp only [Option.some.injEq, Addr.mk.injEq, and_true] at e
    obtain ⟨rfl, rfl⟩ := e
    exact ⟨cs, t, fr, hg, hc⟩
theorem CellAt.of {L : List Assn} {b o i : Nat} {vs : List Value} {len : Nat} {v : Value} (r : RdS L (some ⟨b, o, none⟩) len vs) (hv : vs[i]? = some v) : CellAt L b (o + i) v := fun h s => by
  obtain ⟨hl, q⟩ := r.2 h s
  rcases q with q | ⟨g, off, cs, t, fr, e, hg, hc⟩
  · have := (List.getElem?_eq_some_iff.1 hv).1; omega
  · simp only [Option.some.injEq, Addr.mk.injEq, and_true] at e
    obtain ⟨rfl, rfl⟩ := e
    exact ⟨cs, t, fr, hg, hc i v hv⟩

section
variable {P : Program} {ops : Array Oper} {Q : Exit → Act → World → Prop} {n : Nat} {e0 : World} {env : Env} {L : List Assn} {rest : List Oper}
variable {dst : Option Tmp} {ty : TypeId} {pos : String} {aft : Array Edge} {g : Option (Nat × Bool)} {op : Op}

theorem run_append_sep {t e sz bytes : Nat} {z : Value} (E : P.underlying t = some (.slice e)) [I : InfA P e sz bytes z] {w : World} {L M : List Assn} {a b : Option Addr} {k cap m c : Nat} {xs news : List Value} (hs : Sep L w.ph)
    (p : Pick (own e sz a k cap xs) L M) (hr : RdS L b (m * sz) news) (hb : (k + m) * bytes ≤ 140737488355328) (hbc : b = none → m = 0 ∧ c = 0) :
    ∃ a' cap' w', (Builtin.append_ #[t, t] ty #[.slice a k cap, .slice b m c]).run P w = .ok (.slice a' (k + m) cap') w' ∧ Sep (own e sz a' (k + m) cap' (xs ++ news) :: M) w'.ph ∧ Env0 w w' := by
  obtain ⟨i, hi, hz, hsz, hby⟩ := info_parts I.inf
  have hown := own_row (p.ok hs)
  obtain ⟨h1, hrd⟩ := hr
  obtain ⟨hl, hcell⟩ := hrd _ hs
  have hbp := I.bpos
  have h63 : k + m ≤ maxLen := by
    have : k + m ≤ (k + m) * bytes := Nat.le_mul_of_pos_right _ hbp
    simp only [maxLen]; omega
  cases b with
  | none =>
    obtain ⟨rfl, rfl⟩ := hbc rfl
    have hnil : news = [] := by apply List.eq_nil_of_length_eq_zero; simpa using hl
    subst hnil
    refine ⟨a, cap, w, ?_, ?_, Env0.refl w⟩
    · rw [run_append_owned_none (P := P) w 0 t ty e i sz E hi (.slice a k cap) k xs hown]; rfl
    · simpa using p.sep hs
  | some ad =>
    have hnews : ∀ j u, news[j]? = some u → w.cell? (ad.add j) = some u := fun j u hu => by
      rcases hcell with h0 | ⟨q, off, cs, t', fr, e', hq, hc⟩
      · have := (List.getElem?_eq_some_iff.1 hu).1; omega
      · simp only [Option.some.injEq] at e'
        subst e'
        rw [addr_add]; exact cell_ph hq (hc j u hu)
    obtain ⟨v', w', hrun, hown', hgr, _, hat⟩ := run_append_own_at (P := P) w 0 t ty e i z sz bytes E hi hz hsz hby I.zs I.pos _ k xs hown ad m c news hl hnews h1 h63 hb (Nat.zero_le _)
    obtain ⟨a', cap', rfl, ha', hok⟩ := own_of_row hown'
    refine ⟨a', cap', w', hrun, ?_, ⟨hgr.os, hgr.tape, hgr.output⟩⟩
    refine Sep.replace p hs fun S hS => ⟨fun b => (match a' with | some ad => ad.block == b | none => false), hok _ (fun q hq => by subst hq; simp [PH.only]), fun b o hbo => ?_⟩
    simp only [PH.less] at hbo ⊢
    split at hbo
    · cases hbo
    rename_i hSb
    have hlt : b < w.heap.size := by
      rcases Nat.lt_or_ge b w.heap.size with h | h
      · exact h
      · simp [World.ph, h] at hbo
    have hrow : some b ≠ (Value.slice a k cap).ownBlock := fun hh => by
      obtain ⟨_, _, _, q4⟩ := own_ok.1 hS
      rcases q4 with ⟨rfl, _⟩ | ⟨q, cur, rfl, hq, _⟩
      · simp [Value.ownBlock] at hh
      · simp [Value.ownBlock] at hh
        subst hh
        simp [PH.only, hSb] at hq
    have hne : (match a' with | some ad => ad.block == b | none => false) = false := by
      cases a' with
      | none => rfl
      | some q =>
        simp only [beq_eq_false_iff_ne]
        rintro rfl
        rcases hat with hat | hat
        · exact hrow (by rw [← hat]; rfl)
        · simp [Value.ownBlock] at hat; omega
    rw [if_neg (by rw [hne]; simp)]
    have := hgr.block b hlt hrow
    simp only [World.ph] at hbo ⊢
    rw [this]; exact hbo

theorem CX.append {t e sz bytes : Nat} {z : Value} [E : ElemA P t e sz] [I : InfA P e sz bytes z] {x y : Operand} {a b : Option Addr} {k cap m c : Nat} {xs news : List Value} {M : List Assn} (hg : gd ops n env g = some true)
    (hx : ev n env x = some (.slice a k cap)) (hy : ev n env y = some (.slice b m c)) (p : Pick (own e sz a k cap xs) L M) (hr : RdS L b (m * sz) news) (hb : (k + m) * bytes ≤ 140737488355328) (hbc : b = none → m = 0 ∧ c = 0)
    (h : ∀ a' cap', CX P ops Q n e0 (putE env dst (.slice a' (k + m) cap')) (own e sz a' (k + m) cap' (xs ++ news) :: M) rest) :
    CX P ops Q n e0 env L (⟨dst, .call ⟨.builtin .append, #[x, y], #[t, t]⟩, ty, pos, aft, g⟩ :: rest) := by
  refine CX.step hg fun w0 w hf hs he K hK => ?_
  obtain ⟨a', cap', w', hrun, hs', he'⟩ := run_append_sep (P := P) (ty := ty) E.under hs p hr hb hbc
  have hr2 : (execOp w0.eval ⟨dst, .call ⟨.builtin .append, #[x, y], #[t, t]⟩, ty, pos, aft, g⟩).run P w = .ok (.value (.slice a' (k + m) cap')) w' := by
    simp [execOp, resolve, invoke, builtin, hf.eval hx, hf.eval hy, hrun]
  unfold Oper.wp
  rw [hr2]
  exact hK _ _ (h a' cap' _ _ (hf.put dst _) hs' (he.trans he'))

theorem CX.makeSl {t e sz bytes : Nat} {z : Value} [E : ElemA P t e sz] [I : InfA P e sz bytes z] {x y : Operand} {k k' : IntKind} {i : Int} {l : Nat} (hg : gd ops n env g = some true)
    (hx : ev n env x = some (.int k i)) (hy : ev n env y = some (.int k' i)) (hi : i = (l : Int)) (hb : bytes * l ≤ 281474976710656)
    (h : ∀ b, CX P ops Q n e0 (putE env dst (.slice (some ⟨b, 0, none⟩) l l)) (own e sz (some ⟨b, 0, none⟩) l l (madeCells z.cells (l * sz)).toList :: L) rest) :
    CX P ops Q n e0 env L (⟨dst, .makeSlice t x y, ty, pos, aft, g⟩ :: rest) := by
  subst hi
  refine CX.step hg fun w0 w hf hs he K hK => ?_
  obtain ⟨i, hi, hz, hsz, hby⟩ := info_parts I.inf
  have hbp := I.bpos
  have h63 : l ≤ maxLen := by
    have : l ≤ bytes * l := Nat.le_mul_of_pos_left _ hbp
    simp only [maxLen]; omega
  have hl2 : ((l : Nat) : Int).toNat = l := by simp
  have hrun := run_make (P := P) w t e i z E.under hi hz k k' (l : Int) (l : Int) (by omega) (by omega) (by rw [hby, ← Int.natCast_mul]; omega) (by simp only [maxLen] at h63; omega)
  rw [hl2] at hrun
  have hr2 : (execOp w0.eval ⟨dst, .makeSlice t x y, ty, pos, aft, g⟩).run P w = .ok (.value (.slice (some ⟨w.heap.size, 0, none⟩) l l)) (w.alloc (.cells (madeCells z.cells (l * i.size)) e)) := by
    simp only [execOp, hf.eval hx, hf.eval hy, Sem.run_bind, hrun, Result.andThen_ok, Sem.run_pure]
  unfold Oper.wp
  rw [hr2]
  refine hK _ _ (h w.heap.size _ _ (hf.put dst _) ?_ (he.trans ⟨rfl, rfl, rfl⟩))
  rw [hsz, ph_alloc]
  refine hs.push (ph_size w) fun q hq => own_ok.2 ⟨?_, Nat.le_refl _, h63, .inr ⟨_, _, rfl, hq, ?_, ?_⟩⟩
  · simp [madeCells]
  · simp [madeCells]
  · rw [List.take_of_length_le]; simp [madeCells]

theorem CX.indexOwn {t e sz : Nat} [E : ElemA P t e sz] {x y : Operand} {a : Option Addr} {len cap j : Nat} {k : IntKind} {i : Int} {xs : List Value} {M : List Assn} (hg : gd ops n env g = some true) (hx : ev n env x = some (.slice a len cap))
    (hy : ev n env y = some (.int k i)) (hi : i = (j : Int)) (p : Pick (own e sz a len cap xs) L M) (hl : j < len)
    (h : ∀ b, a = some ⟨b, 0, none⟩ → CX P ops Q n e0 (putE env dst (.pointer (some ⟨b, j * sz, none⟩))) L rest) : CX P ops Q n e0 env L (⟨dst, .indexAddr t x y, ty, pos, aft, g⟩ :: rest) := by
  intro w0 w hf hs he
  obtain ⟨q1, q2, q3, q4⟩ := own_ok.1 (p.ok hs)
  rcases q4 with ⟨_, rfl⟩ | ⟨b, cur, e', _⟩
  · omega
  · subst e'
    refine CX.ps (PS.indexAddr hg hx hy hi hl) ?_ w0 w hf hs he
    have := h b rfl
    rw [Nat.zero_add]; exact this

/-- A store into a slice's own array. -/
theorem CX.storeOwn {t sz : Nat} [Z : SzT P t sz] {x y : Operand} {b o e s k cap : Nat} {xs : List Value} {v : Value} {M : List Assn} (hg : gd ops n env g = some true) (hx : ev n env x = some (.pointer (some ⟨b, o, none⟩)))
    (hy : ev n env y = some v) (hv : v.cells.size = sz) (ho : ∀ u ∈ v.cells.toList, u.oneCell' = true) (p : Pick (own e s (some ⟨b, 0, none⟩) k cap xs) L M) (hl : o + sz ≤ k * s)
    (h : CX P ops Q n e0 (putE env dst undef) (own e s (some ⟨b, 0, none⟩) k cap (setL xs o v.cells.toList) :: M) rest) : CX P ops Q n e0 env L (⟨dst, .store t x y, ty, pos, aft, g⟩ :: rest) := by
  refine CX.step hg fun a w hf hs he K hK => ?_
  obtain ⟨q1, q2, q3, q4⟩ := own_ok.1 (p.ok hs)
  rcases q4 with ⟨hh, _⟩ | ⟨b', cur, e', hgc, hsz, ht⟩
  · cases hh
  simp only [Option.some.injEq, Addr.mk.injEq, and_true, true_and] at e'
  subst e'
  have hle : k * s ≤ cap * s := Nat.mul_le_mul_right _ q2
  obtain ⟨w', hr, hph, he'⟩ := run_storeCells_ph (P := P) o v.cells.toList 0 cur.toList w (by simpa using hgc) (by simp [hv]; omega) (.inr (Nat.le_refl _)) ho
  have hrun : (execOp a.eval ⟨dst, .store t x y, ty, pos, aft, g⟩).run P w = .ok .skip w' := by
    simp [execOp, hf.eval hx, hf.eval hy, Instr.storeAt, Instr.sureAddr, storeVar, Z.size w, hv, hr]
  unfold Oper.wp
  rw [hrun]
  refine hK _ _ (h _ _ (hf.put dst undef) ?_ (he.trans he'))
  rw [hph]
  refine Sep.upd (.head _) (fun q hq => ?_) (fun q hq hok => ?_) (p.sep hs)
  · obtain ⟨_, _, _, r4⟩ := own_ok.1 hq
    rcases r4 with ⟨hh, _⟩ | ⟨b', c', e', hc, _⟩
    · cases hh
    · simp only [Option.some.injEq, Addr.mk.injEq, and_true, true_and] at e'
      subst e'; simp [hc]
  · refine own_ok.2 ⟨?_, q2, q3, .inr ⟨b, _, rfl, by simp [PH.put]; rfl, ?_, ?_⟩⟩
    · rw [length_setL _ _ _ (by simp [hv]; omega)]; exact q1
    · simp; rw [length_setL _ _ _ (by simp [hv]; omega)]; simpa using hsz
    · rw [← ht]
      simp only [setL, List.take_append, List.length_take, Array.length_toList, hv]
      have h1 : min o cur.size = o := by omega
      have h2 : min o (min (k * s) cur.size) = o := by omega
      simp only [List.take_take, h1, Nat.zero_add]
      have h3 : min (k * s) o = o := by omega
      have h4 : min o (k * s) = o := by omega
      rw [h3, h4, List.take_of_length_le (l := v.cells.toList) (by simp [hv]; omega)]
      congr 2
      rw [List.drop_take]
      simp [hv]
      congr 1
      omega
end
end Go.Cx
/-! Stepping through a region whose order is open. No program in sight. -/
namespace Go.Cx

section
variable {P : Program} {ops : Array Oper} {Q : Exit → Act → World → Prop} {S : World → Prop} {T : Nat → Bool}

/-- Whatever order is picked from here on; every operation but those of T keeps S. -/
def wpAnyT (P : Program) (ops : Array Oper) (Q : Exit → Act → World → Prop) (S : World → Prop) (T : Nat → Bool) : Nat → Array Bool → Act → World → Prop
  | 0, listed, a, w => Region.ready .any ops listed = [] ∧ Q .normal a w
  | fuel + 1, listed, a, w =>
    (Region.ready .any ops listed = [] → Q .normal a w) ∧
    ∀ i ∈ Region.ready .any ops listed, wpOp P ops Q i (fun a' w' => (T i = false → S w → S w') ∧ wpAnyT P ops Q S T fuel (listed.setIfInBounds i true) a' w') a w

theorem wpAny_of_T : ∀ (fuel : Nat) (listed : Array Bool) (a : Act) (w : World), wpAnyT P ops Q S T fuel listed a w → wpAny P .any ops Q fuel listed a w
  | 0, _, _, _, h => h
  | fuel + 1, _, _, _, h => ⟨h.1, fun i hi => wpOp_mono (fun a' w' h' => wpAny_of_T fuel _ a' w' h'.2) (h.2 i hi)⟩

/-- In which worlds an operation must yield its value: any, or those that meet S. -/
def Cls (S : World → Prop) (rd : Bool) (w : World) : Prop := rd = true → S w

theorem wpAnyT_first {i : Nat} {oi : Oper} {v : Value} {rd : Bool} (hi : ops[i]? = some oi) (hsel : ∀ (j : Nat) (o : Oper) cs b, ops[j]? = some o → o.op ≠ .select cs b)
    (hQ : ∀ c a w, Q (.panic c) (a.put oi.dst v) w → Q (.panic c) a w)
    (hT : rd = true → ∀ j oj, ops[j]? = some oj → T j = true → ∃ e ∈ oj.after, Region.binds .any e = true ∧ e.on = i) :
    ∀ (fuel : Nat) (listed : Array Bool) (a : Act) (w : World),
      (∀ j oj, ops[j]? = some oj → j ≠ i → listed.getD j true = false → (∀ e ∈ oj.after, Region.binds .any e = true → e.on ≠ i) → oi.apart ops oj = true) →
      i ∈ Region.ready .any ops listed → YieldsIf P ops (Cls S rd) oi v a → Cls S rd w →
      wpAnyT P ops Q S T fuel (listed.setIfInBounds i true) (a.put oi.dst v) w → wpAnyT P ops Q S T (fuel + 1) listed a w := by
  intro fuel
  induction fuel with
  | zero =>
    intro listed a w _ hr hy hS H
    refine ⟨fun h => (by rw [h] at hr; cases hr), fun j hj => ?_⟩
    by_cases hji : j = i
    · subst hji; exact hy.wpOp hi hS ⟨fun _ h => h, H⟩
    · have := ready_mono hj hji
      rw [H.1] at this
      cases this
  | succ fuel ih =>
    intro listed a w hfree hr hy hS H
    refine ⟨fun h => (by rw [h] at hr; cases hr), fun j hj => ?_⟩
    by_cases hji : j = i
    · subst hji; exact hy.wpOp hi hS ⟨fun _ h => h, H⟩
    · have h1 := H.2 j (ready_mono hj hji)
      obtain ⟨hjun, oj, hoj, hall⟩ := mem_ready.1 hj
      have hnot : ∀ e ∈ oj.after, Region.binds .any e = true → e.on ≠ i := fun e he hb heq => by
        have h1 := hall e he hb
        have h0 := (mem_ready.1 hr).1
        rw [heq] at h1
        rcases Nat.lt_or_ge i listed.size with h' | h'
        · simp [h'] at h0 h1; rw [h0] at h1; cases h1
        · simp [Array.getElem?_eq_none h'] at h1
      have hTj : rd = true → T j = false := fun hrd => by
        cases hT' : T j with
        | false => rfl
        | true =>
          obtain ⟨e, he, hb, hon⟩ := hT hrd j oj hoj hT'
          exact absurd hon (hnot e he hb)
      have h2 := wpOp_putIf hoj (hfree j oj hoj hji hjun hnot) (fun cs b => hsel i oi cs b hi) (fun cs b => hsel j oj cs b hoj) hQ hy h1
      have hfree' : ∀ k ok, ops[k]? = some ok → k ≠ i → (listed.setIfInBounds j true).getD k true = false →
          (∀ e ∈ ok.after, Region.binds .any e = true → e.on ≠ i) → oi.apart ops ok = true := fun k ok hk hki hun hno => by
        refine hfree k ok hk hki ?_ hno
        by_cases hjk : j = k
        · subst hjk; exact hjun
        · rw [getD_set_ne true hjk] at hun; exact hun
      refine wpOp_mono (fun a' w' h3 => ⟨h3.2.1, ih (listed.setIfInBounds j true) a' w' hfree' (ready_mono hr (Ne.symm hji)) h3.1 (fun hrd => h3.2.1 (hTj hrd) (hS hrd)) ?_⟩) h2
      rw [Array.setIfInBounds_comm _ _ hji]
      exact h3.2.2
end

/-- What the operations of an order are: 0: it reckons only; 1: it reads; 2: it acts, and what is read stays; 3: it acts behind all that is read. -/
abbrev Order := List (Nat × Nat)
def tails (s : Order) (i : Nat) : Bool := s.contains (i, 3)
/-- Is this an order in which the region may be walked? -/
def ordB (ops : Array Oper) (T : Nat → Bool) : Order → Array Bool → Bool
  | [], listed => (Region.ready .any ops listed).isEmpty
  | (i, k) :: s, listed =>
    (if k ≤ 1 then (Region.ready .any ops listed).contains i && Region.free .any ops listed i &&
        (k == 0 || (List.range ops.size).all fun j => !T j || ((ops[j]?).map fun oj => oj.after.any fun e => Region.binds .any e && e.on == i).getD true)
      else Region.ready .any ops listed == [i] && (k == 3 || !T i)) && ordB ops T s (listed.setIfInBounds i true)

def CH (P : Program) (ops : Array Oper) (Q : Exit → Act → World → Prop) (n : Nat) (e0 : World) (T : Nat → Bool) (R : List Assn) (env : Env) (L : List Assn) (s : Order) : Prop :=
  Region.noSelect ops = true → ∀ listed, ordB ops T s listed = true → ∀ a w, Fr n env a → Sep L w.ph → Env0 e0 w → wpAnyT P ops (NoPanic Q) (fun w => Sep R w.ph) T s.length listed a w

section
variable {P : Program} {ops : Array Oper} {Q : Exit → Act → World → Prop} {n : Nat} {e0 : World} {env : Env} {L R : List Assn} {s : Order} {T : Nat → Bool}
variable {dst : Option Tmp} {ty : TypeId} {pos : String} {aft : Array Edge} {g : Option (Nat × Bool)} {op : Op}

theorem CH.nil (h : CQ (Q .normal) n e0 env L) : CH P ops Q n e0 T R env L [] := fun hsel listed hB a w hf hs he => by
  refine ⟨?_, h a w hf hs he⟩
  simpa [ordB] using hB

theorem CH.pure {i : Nat} {v : Value} (ho : ops[i]? = some ⟨dst, op, ty, pos, aft, g⟩) (hp : PS P ops n env [] ⟨dst, op, ty, pos, aft, g⟩ v)
    (h : CH P ops Q n e0 T R (putE env dst v) L s) : CH P ops Q n e0 T R env L ((i, 0) :: s) := fun hsel listed hB a w hf hs he => by
  simp only [ordB, Nat.zero_le, if_true, Bool.and_eq_true] at hB
  exact wpAnyT_first (rd := false) ho (Region.noSelect_spec hsel) (fun _ _ _ h => h.elim) (fun h => by cases h) _ _ _ _ (Region.free_spec ho hB.1.1.2) (by simpa using hB.1.1.1)
    (.inl ⟨gd_wanted hf hp.1, fun w' hs' => hp.2 a w' hf trivial⟩) (fun h => by cases h) (h hsel _ hB.2 _ _ (hf.put dst v) hs he)

theorem CH.read {i : Nat} {v : Value} {M : List Assn} (ho : ops[i]? = some ⟨dst, op, ty, pos, aft, g⟩) (hp : PS P ops n env R ⟨dst, op, ty, pos, aft, g⟩ v) (hr : Sel L R M)
    (h : CH P ops Q n e0 T R (putE env dst v) L s) : CH P ops Q n e0 T R env L ((i, 1) :: s) := fun hsel listed hB a w hf hs he => by
  simp only [ordB, Nat.le_refl, if_true, Bool.and_eq_true, Bool.or_eq_true, List.all_eq_true] at hB
  refine wpAnyT_first (rd := true) ho (Region.noSelect_spec hsel) (fun _ _ _ h => h.elim) (fun _ j oj hj hTj => ?_) _ _ _ _ (Region.free_spec ho hB.1.1.2) (by simpa using hB.1.1.1)
    (.inl ⟨gd_wanted hf hp.1, fun w' hs' => hp.2 a w' hf (hs' rfl)⟩) (fun _ => (hr.sep hs).left) (h hsel _ hB.2 _ _ (hf.put dst v) hs he)
  rcases hB.1.2 with h1 | h1
  · simp at h1
  · have := h1 j (by simpa using (Array.getElem?_eq_some_iff.1 hj).1)
    simp only [hTj, Bool.not_true, Bool.false_or, hj, Option.map_some, Option.getD_some, Array.any_eq_true', Bool.and_eq_true, beq_iff_eq] at this
    rcases this with h2 | h2
    · cases h2
    · exact h2

theorem CH.skip {i : Nat} {k : Nat} (hk : Nat.ble k 1 = true) (ho : ops[i]? = some ⟨dst, op, ty, pos, aft, g⟩) (hg : gd ops n env g = some false)
    (h : CH P ops Q n e0 T R (putE env dst undef) L s) : CH P ops Q n e0 T R env L ((i, k) :: s) := fun hsel listed hB a w hf hs he => by
  have hk' := Nat.le_of_ble_eq_true hk
  simp only [ordB, hk', if_true, Bool.and_eq_true] at hB
  have hw : Region.wanted (⟨dst, op, ty, pos, aft, g⟩ : Oper) (yielded ops a.tmps) = false := gd_wanted hf hg
  exact wpAnyT_first (rd := false) ho (Region.noSelect_spec hsel) (fun _ _ _ h => h.elim) (fun h => by cases h) _ _ _ _ (Region.free_spec ho hB.1.1.2) (by simpa using hB.1.1.1)
    (.inr ⟨hw, rfl⟩) (fun h => by cases h) (h hsel _ hB.2 _ _ (hf.put dst undef) hs he)

theorem CH.skipC {i : Nat} {k : Nat} (hk : Nat.ble k 1 = false) (ho : ops[i]? = some ⟨dst, op, ty, pos, aft, g⟩) (hg : gd ops n env g = some false)
    (h : CH P ops Q n e0 T R (putE env dst undef) L s) : CH P ops Q n e0 T R env L ((i, k) :: s) := fun hsel listed hB a w hf hs he => by
  have hk' : ¬ k ≤ 1 := fun h => by have := Nat.ble_eq_true_of_le h; rw [hk] at this; cases this
  simp only [ordB, hk', if_false, Bool.and_eq_true, beq_iff_eq] at hB
  have hw : Region.wanted (⟨dst, op, ty, pos, aft, g⟩ : Oper) (yielded ops a.tmps) = false := gd_wanted hf hg
  refine ⟨fun h0 => (by rw [hB.1.1] at h0; cases h0), fun j hj => ?_⟩
  rw [hB.1.1] at hj
  obtain rfl : j = i := by simpa using hj
  simp only [wpOp, ho, hw, Bool.false_eq_true, if_false]
  exact ⟨fun _ h => h, h hsel _ hB.2 _ _ (hf.put dst undef) hs he⟩

theorem CH.act {i k : Nat} {o : Oper} (hk : Nat.ble k 1 = false) (ho : ops[i]? = some o) (G : List Assn → Prop) (hG : ∀ L', G L' → (T i = false → ∃ M, Sel L' R M))
    (h : ∀ K : Act → World → Prop, (∀ env' L', G L' → CH P ops Q n e0 T R env' L' s → CQ K n e0 env' L') → CX P ops (Exit.then K (NoPanic Q)) n e0 env L [o]) :
    CH P ops Q n e0 T R env L ((i, k) :: s) := fun hsel listed hB a w hf hs he => by
  have hk' : ¬ k ≤ 1 := fun h => by have := Nat.ble_eq_true_of_le h; rw [hk] at this; cases this
  simp only [ordB, hk', if_false, Bool.and_eq_true, beq_iff_eq] at hB
  refine ⟨fun h0 => (by rw [hB.1.1] at h0; cases h0), fun j hj => ?_⟩
  rw [hB.1.1] at hj
  obtain rfl : j = i := by simpa using hj
  have := h (fun a' w' => (T j = false → Sep R w.ph → Sep R w'.ph) ∧ wpAnyT P ops (NoPanic Q) (fun w => Sep R w.ph) T s.length (listed.setIfInBounds j true) a' w')
    (fun env' L' hg hch a' w' hf' hs' he' => ⟨fun hTj _ => (by obtain ⟨M, hsel2⟩ := hG L' hg hTj; exact (hsel2.sep hs').left), hch hsel _ hB.2 a' w' hf' hs' he'⟩) a w hf hs he
  simp only [wpOp, ho]
  unfold wpList at this
  split at this
  · rename_i hw
    simp only [hw, if_true]
    rcases this with h1 | ⟨h1, a0, w0, h2⟩
    · refine .inl ?_
      unfold Oper.wp at *
      generalize (execOp a.eval o).run P w = r at *
      cases r with
      | ok x w' =>
        cases x <;> simp only [Oper.upon] at h1 ⊢ <;> first
          | exact h1
          | exact h1.elim
          | exact Calls.mono h1 (fun e w'' h3 => by cases e <;> exact h3)
          | exact Rows.mono h1 (fun _ _ h3 => h3)
      | halt x w' => cases x <;> simp only [Oper.upon] at h1 ⊢ <;> exact h1
    · exact .inr ⟨h1, a0, w0, h2⟩
  · rename_i hw
    simp only [hw, if_false, Bool.false_eq_true]
    exact this

/-- It acts, and what is read stays. -/
theorem CH.chain {i : Nat} {o : Oper} (ho : ops[i]? = some o)
    (h : ∀ K : Act → World → Prop, (∀ env' L' M, Sel L' R M → CH P ops Q n e0 T R env' L' s → CQ K n e0 env' L') → CX P ops (Exit.then K (NoPanic Q)) n e0 env L [o]) :
    CH P ops Q n e0 T R env L ((i, 2) :: s) :=
  CH.act rfl ho (fun L' => ∃ M, Sel L' R M) (fun _ h _ => h) fun K hK => h K fun env' L' M hs hc => hK env' L' ⟨M, hs⟩ hc
/-- It acts behind all that is read. -/
theorem CH.tail {i : Nat} {o : Oper} (ho : ops[i]? = some o) (hT : T i = true)
    (h : ∀ K : Act → World → Prop, (∀ env' L', CH P ops Q n e0 T R env' L' s → CQ K n e0 env' L') → CX P ops (Exit.then K (NoPanic Q)) n e0 env L [o]) :
    CH P ops Q n e0 T R env L ((i, 3) :: s) :=
  CH.act rfl ho (fun _ => True) (fun _ _ h => by rw [hT] at h; cases h) fun K hK => h K fun env' L' hc => hK env' L' trivial hc

theorem CQ.thenK {K : Act → World → Prop} {Q' : Exit → Act → World → Prop} (h : CQ K n e0 env L) : CQ (Exit.then K Q' .normal) n e0 env L := h

theorem CC.draw {id : Nat} {l : List Oper} (s : Order) (hm : P.follows .mixedOrders = true) (hl : l.length = s.length) (hB : ordB l.toArray (tails s) s (Array.replicate l.length false) = true)
    (hns : Region.noSelect l.toArray = true) (R : List Assn) (h : CH P l.toArray Q n e0 (tails s) R env L s) : CC P (.region id l.toArray true) Q n e0 env L := fun a w hf hs he => by
  refine wp_region_noPanic (wp_region_any hm (wpAny_of_T (S := fun w => Sep R w.ph) (T := tails s) _ _ _ _ ?_))
  have := h hns (Array.replicate l.length false) hB a { w with drawn := w.drawn + 1 } hf hs (he.trans ⟨rfl, rfl, rfl⟩)
  simpa [hl] using this
end
end Go.Cx
/-! Stepping: composite values, slice expressions, copy, comparison of arrays. No program in sight. -/
namespace Go.Cx

/-! ### Composite values -/
def fillL (place : Nat → Option (Nat × Nat)) (cells : List Value) : List (Nat × Value) → Option (List Value)
  | [] => some cells
  | (i, v) :: rest =>
    match place i with
    | none => none
    | some (off, size) => if v.cells.size = size ∧ off + v.cells.size ≤ cells.length then fillL place (setL cells off v.cells.toList) rest else none

theorem foldl_setL (vs : List Value) : ∀ (k off : Nat) (cs : Array Value), off + k + vs.length ≤ cs.size →
    (vs.zipIdx k).foldl (fun cs (c, j) => cs.setIfInBounds (off + j) c) cs = (setL cs.toList (off + k) vs).toArray := by
  induction vs with
  | nil => intro k off cs _; simp [setL_nil]
  | cons v vs ih =>
    intro k off cs h
    simp only [List.length_cons] at h
    simp only [List.zipIdx_cons, List.foldl_cons]
    rw [ih (k + 1) off (cs.setIfInBounds (off + k) v) (by simp; omega)]
    congr 1
    have := setL_cons cs.toList (off + k) v vs (by simp; omega)
    rw [← this]
    congr 1
    simp

theorem fill_eq (place : Nat → Option (Nat × Nat)) : ∀ (parts : List (Nat × Value)) (cells out : List Value), fillL place cells parts = some out → Instr.fill place cells.toArray parts = some out.toArray
  | [], cells, out, h => by simp [fillL] at h; simp [Instr.fill, h]
  | (i, v) :: rest, cells, out, h => by
    simp only [fillL] at h
    cases hp : place i with
    | none => rw [hp] at h; cases h
    | some os =>
      obtain ⟨off, size⟩ := os
      rw [hp] at h
      simp only at h
      split at h
      · rename_i hc
        simp only [Instr.fill, hp]
        have h1 : ¬ (v.cells.size ≠ size || decide (off + v.cells.size > cells.toArray.size)) = true := by
          simp; omega
        rw [if_neg h1]
        have h2 : v.cells.zipIdx.foldl (fun cs x => match x with | (c, j) => cs.setIfInBounds (off + j) c) cells.toArray = (setL cells off v.cells.toList).toArray := by
          have := foldl_setL v.cells.toList 0 off cells.toArray (by simp; omega)
          rw [← Array.foldl_toList, Array.toList_zipIdx]
          simpa using this
        rw [h2]
        exact fill_eq place rest _ out h
      · cases h

class PlcA (P : Program) (t : TypeId) (pl : outParam (List (Nat × Nat))) : Prop where
  plc : ∃ fs, P.underlying t = some (.struct fs) ∧ ∀ w, (fs.mapM fun f => do pure (f.offset, ← sizeOf f.type) : Sem (Array (Nat × Nat))).run P w = .ok pl.toArray w

def evp (n : Nat) (env : Env) : List (Nat × Operand) → Option (List (Nat × Value))
  | [] => some []
  | (i, x) :: r => match ev n env x, evp n env r with
    | some v, some vs => some ((i, v) :: vs)
    | _, _ => none
theorem Fr.evp {n : Nat} {env : Env} {a : Act} (f : Fr n env a) : ∀ {xs : List (Nat × Operand)} {vs : List (Nat × Value)}, Cx.evp n env xs = some vs → xs.map (fun (i, x) => (i, a.eval x)) = vs
  | [], vs, h => by simp [Cx.evp] at h; simp [h]
  | (i, x) :: r, vs, h => by
    simp only [Cx.evp] at h
    split at h
    · rename_i v us h1 h2
      cases h
      simp [f.eval h1, f.evp h2]
    · cases h

section
variable {P : Program} {ops : Array Oper} {Q : Exit → Act → World → Prop} {n : Nat} {e0 : World} {env : Env} {L : List Assn} {rest : List Oper}
variable {dst : Option Tmp} {ty : TypeId} {pos : String} {aft : Array Edge} {g : Option (Nat × Bool)} {op : Op}

theorem PS.build {t : TypeId} {pl : List (Nat × Nat)} {z : Value} [B : PlcA P t pl] [Z : ZeroA P t z] {parts : List (Nat × Operand)} {vs : List (Nat × Value)} {out : List Value} (hg : gd ops n env g = some true) (hx : evp n env parts = some vs)
    (hf : fillL (fun i => pl[i]?) z.cells.toList vs = some out) : PS P ops n env L ⟨dst, .build t parts.toArray, ty, pos, aft, g⟩ (.agg out.toArray) :=
  ⟨hg, fun a w hfr _ => by
    obtain ⟨fs, hu, hm⟩ := B.plc
    have h1 := hfr.evp hx
    have h2 := fill_eq _ _ _ _ hf
    have h3 : (Array.map (fun x => match x with | (i, x) => (i, a.eval x)) parts.toArray).toList = vs := by simpa using h1
    have hrun : (Instr.build t (parts.toArray.map fun (i, x) => (i, a.eval x))).run P w = .ok (.agg out.toArray) w := by
      simp only [Instr.build, Sem.run_bind, Z.zero w, Result.andThen_ok, run_underlying hu, hm w]
      have h4 : Instr.fill (fun x => pl.toArray[x]?) z.cells (Array.map (fun x => match x with | (i, x) => (i, a.eval x)) parts.toArray).toList = some out.toArray := by
        rw [h3]; simpa using h2
      rw [h4]
      simp
    simp only [execOp, Sem.run_bind, hrun, Result.andThen_ok, Sem.run_pure]⟩

theorem PS.buildArr {t len e sz : Nat} {z : Value} [A : ArrA P t len e sz] [Z : ZeroA P t z] {parts : List (Nat × Operand)} {vs : List (Nat × Value)} {out : List Value} (hg : gd ops n env g = some true) (hx : evp n env parts = some vs)
    (hf : fillL (fun i => some (i * sz, sz)) z.cells.toList vs = some out) : PS P ops n env L ⟨dst, .build t parts.toArray, ty, pos, aft, g⟩ (.agg out.toArray) :=
  ⟨hg, fun a w hfr _ => by
    have h1 := hfr.evp hx
    have h2 := fill_eq _ _ _ _ hf
    have h3 : (Array.map (fun x => match x with | (i, x) => (i, a.eval x)) parts.toArray).toList = vs := by simpa using h1
    have hrun : (Instr.build t (parts.toArray.map fun (i, x) => (i, a.eval x))).run P w = .ok (.agg out.toArray) w := by
      simp only [Instr.build, Sem.run_bind, Z.zero w, Result.andThen_ok, run_underlying A.under, A.size w]
      have h4 : Instr.fill (fun i => some (i * sz, sz)) z.cells (Array.map (fun x => match x with | (i, x) => (i, a.eval x)) parts.toArray).toList = some out.toArray := by
        rw [h3]; simpa using h2
      rw [h4]
      simp
    simp only [execOp, Sem.run_bind, hrun, Result.andThen_ok, Sem.run_pure]⟩

theorem CX.buildSl {t e sz : Nat} {z : Value} [E : ElemA P t e sz] [Z : ZeroA P e z] {len : Nat} {parts : List (Nat × Operand)} {vs : List (Nat × Value)} {out : List Value} (hg : gd ops n env g = some true) (hx : evp n env parts = some vs)
    (h0 : len * sz ≠ 0 ∧ len * sz ≤ 16777216) (hf : fillL (fun i => some (i * sz, sz)) ((Array.range (len * sz)).map (z.cells[· % z.cells.size]!)).toList vs = some out)
    (h : ∀ b, CX P ops Q n e0 (putE env dst (.slice (some ⟨b, 0, none⟩) len len)) (bk b e out :: L) rest) :
    CX P ops Q n e0 env L (⟨dst, .buildSlice t len parts.toArray, ty, pos, aft, g⟩ :: rest) := by
  refine CX.step hg fun a w hfr hs he K hK => ?_
  have h1 := hfr.evp hx
  have h2 := fill_eq _ _ _ _ hf
  have h3 : (Array.map (fun x => match x with | (i, x) => (i, a.eval x)) parts.toArray).toList = vs := by simpa using h1
  have hrun : (Instr.buildSlice t len (parts.toArray.map fun (i, x) => (i, a.eval x))).run P w = .ok (.slice (some ⟨w.heap.size, 0, none⟩) len len) (w.alloc (.cells out.toArray e)) := by
    simp only [Instr.buildSlice, Sem.run_bind, run_underlying E.under, Result.andThen_ok, E.size w]
    rw [if_neg (show ¬ len * sz > 2 ^ 24 by have := h0.2; omega), if_neg h0.1]
    have h4 : Instr.fill (fun i => some (i * sz, sz)) ((Array.range (len * sz)).map (z.cells[· % z.cells.size]!)) (Array.map (fun x => match x with | (i, x) => (i, a.eval x)) parts.toArray).toList = some out.toArray := by
      rw [h3]; rw [Array.toArray_toList] at h2; exact h2
    simp only [Sem.run_bind, Z.zero w, Result.andThen_ok, Sem.run_pure]
    rw [h4]
    simp [newRow, newObj, Sem.run]
  have hr2 : (execOp a.eval ⟨dst, .buildSlice t len parts.toArray, ty, pos, aft, g⟩).run P w = .ok (.value (.slice (some ⟨w.heap.size, 0, none⟩) len len)) (w.alloc (.cells out.toArray e)) := by
    simp only [execOp, Sem.run_bind, hrun, Result.andThen_ok, Sem.run_pure]
  unfold Oper.wp
  rw [hr2]
  exact hK _ _ (h w.heap.size _ _ (hfr.put dst _) (hs.alloc e out) (he.trans ⟨rfl, rfl, rfl⟩))

/-! ### Slice expressions -/
def bndV (n : Nat) (env : Env) : Option Operand → Option (Option Value)
  | none => some none
  | some x => (ev n env x).map some

theorem run_bound (k : IntKind) (j y : Nat) (code : BoundsCode) (hj : j ≤ y) (w : World) : (Instr.sliceBound (.int k (j : Int)) y code).run P w = .ok j w := by
  have h1 : (0 : Int) ≤ j ∧ (j : Int) ≤ y := by omega
  simp [Instr.sliceBound, asIntOf, h1]

/-- The place where a part begins: at the very end of the room the place is the old one. -/
def cutAt (a : Option Addr) (l m size : Nat) : Option Addr := if m = l then a else a.map (·.add (l * size))

/-- s[lo:hi], of a slice. -/
theorem PS.slice {t e sz : Nat} [E : ElemA P t e sz] {x : Operand} {lo hi : Option Operand} {a : Option Addr} {len cap l h : Nat} {vl vh : Option Value} (hg : gd ops n env g = some true) (hx : ev n env x = some (.slice a len cap))
    (hlo : bndV n env lo = some vl) (hhi : bndV n env hi = some vh) (hl : vl = none ∧ l = 0 ∨ ∃ k, vl = some (.int k (l : Int))) (hh : vh = none ∧ h = len ∨ ∃ k, vh = some (.int k (h : Int))) (hlh : l ≤ h) (hc : h ≤ cap) :
    PS P ops n env L ⟨dst, .slice t x lo hi none, ty, pos, aft, g⟩ (.slice (cutAt a l cap sz) (h - l) (cap - l)) :=
  ⟨hg, fun ac w hfr _ => by
    have e1 : lo.map ac.eval = vl := by
      cases lo with
      | none => simp [bndV] at hlo; simp [← hlo]
      | some y =>
        simp only [bndV, Option.map_eq_some_iff] at hlo
        obtain ⟨v, hv, rfl⟩ := hlo
        simp [hfr.eval hv]
    have e2 : hi.map ac.eval = vh := by
      cases hi with
      | none => simp [bndV] at hhi; simp [← hhi]
      | some y =>
        simp only [bndV, Option.map_eq_some_iff] at hhi
        obtain ⟨v, hv, rfl⟩ := hhi
        simp [hfr.eval hv]
    have hb : (Instr.sliceBounds true len cap vl vh none).run P w = .ok (l, h, cap) w := by
      rcases hl with ⟨rfl, rfl⟩ | ⟨k, rfl⟩ <;> rcases hh with ⟨rfl, rfl⟩ | ⟨k', rfl⟩ <;>
        simp [Instr.sliceBounds, run_bound (P := P) _ _ _ _ hlh, run_bound (P := P) _ _ _ _ hc]
    have hrun : (Instr.sliceAt t (.slice a len cap) vl vh none).run P w = .ok (.slice (cutAt a l cap sz) (h - l) (cap - l)) w := by
      simp only [Instr.sliceAt, Sem.run_bind, run_underlying E.under, Result.andThen_ok]
      simp only [Instr.slice, Sem.run_bind, run_underlying E.under, Result.andThen_ok, hb, E.size w]
      simp [cutAt]
    simp only [execOp, hfr.eval hx, e1, e2, Option.map_none, Sem.run_bind, hrun, Result.andThen_ok, Sem.run_pure]⟩

/-- s[lo:hi:max], of a slice. -/
theorem PS.slice3 {t e sz : Nat} [E : ElemA P t e sz] {x y : Operand} {lo hi : Option Operand} {a : Option Addr} {len cap l h m : Nat} {vl vh : Option Value} {km : IntKind} (hg : gd ops n env g = some true) (hx : ev n env x = some (.slice a len cap))
    (hlo : bndV n env lo = some vl) (hhi : bndV n env hi = some vh) (hmx : ev n env y = some (.int km (m : Int))) (hl : vl = none ∧ l = 0 ∨ ∃ k, vl = some (.int k (l : Int))) (hh : ∃ k, vh = some (.int k (h : Int))) (hlh : l ≤ h) (hc : h ≤ m) (hm : m ≤ cap) :
    PS P ops n env L ⟨dst, .slice t x lo hi (some y), ty, pos, aft, g⟩ (.slice (cutAt a l m sz) (h - l) (m - l)) :=
  ⟨hg, fun ac w hfr _ => by
    have e1 : lo.map ac.eval = vl := by
      cases lo with
      | none => simp [bndV] at hlo; simp [← hlo]
      | some y =>
        simp only [bndV, Option.map_eq_some_iff] at hlo
        obtain ⟨v, hv, rfl⟩ := hlo
        simp [hfr.eval hv]
    have e2 : hi.map ac.eval = vh := by
      cases hi with
      | none => simp [bndV] at hhi; simp [← hhi]
      | some y =>
        simp only [bndV, Option.map_eq_some_iff] at hhi
        obtain ⟨v, hv, rfl⟩ := hhi
        simp [hfr.eval hv]
    have hb : (Instr.sliceBounds true len cap vl vh (some (.int km (m : Int)))).run P w = .ok (l, h, m) w := by
      obtain ⟨k', rfl⟩ := hh
      rcases hl with ⟨rfl, rfl⟩ | ⟨k, rfl⟩ <;>
        simp [Instr.sliceBounds, run_bound (P := P) _ _ _ _ hlh, run_bound (P := P) _ _ _ _ hc, run_bound (P := P) _ _ _ _ hm]
    have hrun : (Instr.sliceAt t (.slice a len cap) vl vh (some (.int km (m : Int)))).run P w = .ok (.slice (cutAt a l m sz) (h - l) (m - l)) w := by
      simp only [Instr.sliceAt, Sem.run_bind, run_underlying E.under, Result.andThen_ok]
      simp only [Instr.slice, Sem.run_bind, run_underlying E.under, Result.andThen_ok, hb, E.size w]
      simp [cutAt]
    simp only [execOp, hfr.eval hx, e1, e2, Option.map_some, hfr.eval hmx, Sem.run_bind, hrun, Result.andThen_ok, Sem.run_pure]⟩

/-- arr[lo:hi], of an array's variable. -/
theorem PS.sliceArr {t N e sz : Nat} [A : ArrA P t N e sz] {x : Operand} {lo hi : Option Operand} {b o l h : Nat} {vl vh : Option Value} (hg : gd ops n env g = some true) (hx : ev n env x = some (.pointer (some ⟨b, o, none⟩)))
    (hlo : bndV n env lo = some vl) (hhi : bndV n env hi = some vh) (hl : vl = none ∧ l = 0 ∨ ∃ k, vl = some (.int k (l : Int))) (hh : vh = none ∧ h = N ∨ ∃ k, vh = some (.int k (h : Int))) (hlh : l ≤ h) (hc : h ≤ N) :
    PS P ops n env L ⟨dst, .slice t x lo hi none, ty, pos, aft, g⟩ (.slice (cutAt (some ⟨b, o, none⟩) l N sz) (h - l) (N - l)) :=
  ⟨hg, fun ac w hfr _ => by
    have e1 : lo.map ac.eval = vl := by
      cases lo with
      | none => simp [bndV] at hlo; simp [← hlo]
      | some y =>
        simp only [bndV, Option.map_eq_some_iff] at hlo
        obtain ⟨v, hv, rfl⟩ := hlo
        simp [hfr.eval hv]
    have e2 : hi.map ac.eval = vh := by
      cases hi with
      | none => simp [bndV] at hhi; simp [← hhi]
      | some y =>
        simp only [bndV, Option.map_eq_some_iff] at hhi
        obtain ⟨v, hv, rfl⟩ := hhi
        simp [hfr.eval hv]
    have hb : (Instr.sliceBounds false N N vl vh none).run P w = .ok (l, h, N) w := by
      rcases hl with ⟨rfl, rfl⟩ | ⟨k, rfl⟩ <;> rcases hh with ⟨rfl, rfl⟩ | ⟨k', rfl⟩ <;>
        simp [Instr.sliceBounds, run_bound (P := P) _ _ _ _ hlh, run_bound (P := P) _ _ _ _ hc]
    have hrun : (Instr.sliceAt t (.pointer (some ⟨b, o, none⟩)) vl vh none).run P w = .ok (.slice (cutAt (some ⟨b, o, none⟩) l N sz) (h - l) (N - l)) w := by
      simp only [Instr.sliceAt, Sem.run_bind, run_underlying A.under, Result.andThen_ok, hb, A.size w, Instr.sureAddr, Sem.run_pure]
      by_cases e : N = l <;> simp [cutAt, e]
    simp only [execOp, hfr.eval hx, e1, e2, Option.map_none, Sem.run_bind, hrun, Result.andThen_ok, Sem.run_pure]⟩
theorem PS.sliceArr3 {t N e sz : Nat} [A : ArrA P t N e sz] {x y : Operand} {lo hi : Option Operand} {b o l h m : Nat} {vl vh : Option Value} {km : IntKind} (hg : gd ops n env g = some true) (hx : ev n env x = some (.pointer (some ⟨b, o, none⟩)))
    (hlo : bndV n env lo = some vl) (hhi : bndV n env hi = some vh) (hmx : ev n env y = some (.int km (m : Int))) (hl : vl = none ∧ l = 0 ∨ ∃ k, vl = some (.int k (l : Int))) (hh : ∃ k, vh = some (.int k (h : Int))) (hlh : l ≤ h) (hc : h ≤ m) (hm : m ≤ N) :
    PS P ops n env L ⟨dst, .slice t x lo hi (some y), ty, pos, aft, g⟩ (.slice (cutAt (some ⟨b, o, none⟩) l m sz) (h - l) (m - l)) :=
  ⟨hg, fun ac w hfr _ => by
    have e1 : lo.map ac.eval = vl := by
      cases lo with
      | none => simp [bndV] at hlo; simp [← hlo]
      | some y =>
        simp only [bndV, Option.map_eq_some_iff] at hlo
        obtain ⟨v, hv, rfl⟩ := hlo
        simp [hfr.eval hv]
    have e2 : hi.map ac.eval = vh := by
      cases hi with
      | none => simp [bndV] at hhi; simp [← hhi]
      | some y =>
        simp only [bndV, Option.map_eq_some_iff] at hhi
        obtain ⟨v, hv, rfl⟩ := hhi
        simp [hfr.eval hv]
    have hb : (Instr.sliceBounds false N N vl vh (some (.int km (m : Int)))).run P w = .ok (l, h, m) w := by
      obtain ⟨k', rfl⟩ := hh
      rcases hl with ⟨rfl, rfl⟩ | ⟨k, rfl⟩ <;>
        simp [Instr.sliceBounds, run_bound (P := P) _ _ _ _ hlh, run_bound (P := P) _ _ _ _ hc, run_bound (P := P) _ _ _ _ hm]
    have hrun : (Instr.sliceAt t (.pointer (some ⟨b, o, none⟩)) vl vh (some (.int km (m : Int)))).run P w = .ok (.slice (cutAt (some ⟨b, o, none⟩) l m sz) (h - l) (m - l)) w := by
      simp only [Instr.sliceAt, Sem.run_bind, run_underlying A.under, Result.andThen_ok, hb, A.size w, Instr.sureAddr, Sem.run_pure]
      by_cases e : m = l <;> simp [cutAt, e]
    simp only [execOp, hfr.eval hx, e1, e2, Option.map_some, hfr.eval hmx, Sem.run_bind, hrun, Result.andThen_ok, Sem.run_pure]⟩

/-! ### Arrays compared -/
theorem run_partS {e : TypeId} (hs : ∀ w, (isAgg e).run P w = .ok false w) (w : World) (cs : Array Value) (j : Nat) (v : Value) (h : cs[j]? = some v) : (part e cs j).run P w = .ok v w := by
  simp [part, hs w, h]
theorem run_eqItems {e : TypeId} {k : IntKind} (hu : P.underlying e = some (.int k)) (hs : ∀ w, (isAgg e).run P w = .ok false w) (d : Nat) (w : World) (xs ys : List Int) (hl : xs.length = ys.length) :
    ∀ (m j : Nat), j + m = xs.length → (Op.eqItems (d + 1) e 1 (xs.map (Value.int k)).toArray (ys.map (Value.int k)).toArray (List.range' j m)).run P w = .ok (decide (xs.drop j = ys.drop j)) w := by
  intro m
  induction m with
  | zero =>
    intro j hj
    rw [List.drop_of_length_le (by omega), List.drop_of_length_le (by omega)]
    simp [Op.eqItems]
  | succ m ih =>
    intro j hj
    have hx : j < xs.length := by omega
    have hy : j < ys.length := by omega
    have e1 := run_partS (P := P) hs w (xs.map (Value.int k)).toArray j (.int k xs[j]) (by simp [hx])
    have e2 := run_partS (P := P) hs w (ys.map (Value.int k)).toArray j (.int k ys[j]) (by simp [hy])
    have e3 : (Op.equalIn (d + 1) e (.int k xs[j]) (.int k ys[j])).run P w = .ok (xs[j] == ys[j]) w := by simp [Op.equalIn, run_underlying hu]
    simp only [List.range'_succ, Op.eqItems, Nat.mul_one, Sem.run_bind, e1, e2, e3, Result.andThen_ok]
    have hd : (xs.drop j = ys.drop j) ↔ (xs[j] = ys[j] ∧ xs.drop (j + 1) = ys.drop (j + 1)) := by
      rw [List.drop_eq_getElem_cons hx, List.drop_eq_getElem_cons hy, List.cons.injEq]
    by_cases h : xs[j] = ys[j]
    · have := ih (j + 1) (by omega)
      simp only [h, beq_self_eq_true, Bool.not_true, Bool.false_eq_true, if_false, this, hd, true_and]
    · have hn : ¬ xs.drop j = ys.drop j := fun e => h (hd.1 e).1
      simp [h, hn]

class FldS (P : Program) (s i : Nat) (off : outParam Nat) : Prop where
  fld : ∃ fs f, P.underlying s = some (.struct fs) ∧ fs[i]? = some f ∧ f.offset = off ∧ (∀ w, (isAgg f.type).run P w = .ok false w)
theorem PS.fieldS {s i off : Nat} [F : FldS P s i off] {x : Operand} {cs : Array Value} {v : Value} (hg : gd ops n env g = some true) (hx : ev n env x = some (.agg cs)) (hc : cs[off]? = some v) :
    PS P ops n env L ⟨dst, .field s x i, ty, pos, aft, g⟩ v := by
  obtain ⟨fs, f, hu, hf, ho, hs⟩ := F.fld
  subst ho
  exact ⟨hg, (fun a w hfr _ => by simp [execOp, hfr.eval hx, Instr.field, run_underlying hu, hf, asAgg, part, hs w, hc])⟩
theorem PS.indexS {t len e sz : Nat} [A : ArrA P t len e sz] [S : TyS P e] {x y : Operand} {cs : Array Value} {v : Value} {k : IntKind} {i : Int} {j : Nat} (hg : gd ops n env g = some true) (hx : ev n env x = some (.agg cs)) (hy : ev n env y = some (.int k i)) (hi : i = (j : Int)) (hl : j < len)
    (hc : cs[j]? = some v) : PS P ops n env L ⟨dst, .index t x y, ty, pos, aft, g⟩ v := by
  subst hi
  exact ⟨hg, (fun a w hfr _ => by simp [execOp, hfr.eval hx, hfr.eval hy, Instr.index, asIntOf, run_underlying A.under, hl, S.size w, part, S.agg w, hc])⟩
class StrT (P : Program) (t : TypeId) : Prop where
  under : P.underlying t = some .string
class EqG (P : Program) (t : TypeId) : Prop where
  eqg : P.eqGuardType P.depth t = false
class IntT (P : Program) (t : TypeId) (k : outParam IntKind) : Prop where
  under : P.underlying t = some (.int k)
  agg : ∀ w, (isAgg t).run P w = .ok false w
  inf : (P.info? t).map (·.size) = some 1

theorem run_eqArr {t len e sz : Nat} {k : IntKind} [A : ArrA P t len e sz] [I : IntT P e k] (xs ys : List Int) (hx : xs.length = len) (hy : ys.length = len) (d : Nat) (w : World) :
    (Op.equalIn (d + 2) t (.agg (xs.map (Value.int k)).toArray) (.agg (ys.map (Value.int k)).toArray)).run P w = .ok (decide (xs = ys)) w := by
  obtain ⟨i, hi, hsz⟩ := Option.map_eq_some_iff.1 I.inf
  have hc : P.cellsOf e = 1 := by simp [Program.cellsOf, hi, hsz]
  have := run_equalIn_array (P := P) (w := w) (d + 1) (xs.map (Value.int k)).toArray (ys.map (Value.int k)).toArray A.under hi
  rw [this, hc, List.range_eq_range', run_eqItems I.under I.agg d w xs ys (by omega) len 0 (by omega)]
  simp

theorem PS.convI {s t : TypeId} {k k' : IntKind} [I : IntT P s k] [J : IntT P t k'] {x : Operand} {p z : Int} (hg : gd ops n env g = some true) (hx : ev n env x = some (.int k p)) (hz : k'.wrap p = z) :
    PS P ops n env L ⟨dst, .convert s t x, ty, pos, aft, g⟩ (.int k' z) := PS.conv I.under J.under hg hx hz
theorem PS.neqArr {t u len e sz : Nat} {k : IntKind} [A : ArrA P t len e sz] [I : IntT P e k] [G : EqG P t] {x y : Operand} {xs ys : List Int} (hg : gd ops n env g = some true)
    (hx : ev n env x = some (.agg (xs.map (Value.int k)).toArray)) (hy : ev n env y = some (.agg (ys.map (Value.int k)).toArray)) (h1 : xs.length = len) (h2 : ys.length = len) :
    PS P ops n env L ⟨dst, .binOp .neq t x y u, ty, pos, aft, g⟩ (.bool (decide (xs ≠ ys))) :=
  ⟨hg, fun a w hfr _ => by
    have hq : (eqGuard .neq t x y (.agg (xs.map (Value.int k)).toArray) (.agg (ys.map (Value.int k)).toArray)).run P w = .ok () w := by simp [eqGuard, run_program, G.eqg]
    have hr := run_eqArr (P := P) (t := t) xs ys h1 h2 9998 w
    simp only [execOp, hfr.eval hx, hfr.eval hy, Sem.run_bind, hq, Result.andThen_ok]
    simp only [Go.binOp]
    simp [Op.equal, Op.maxDepth, hr]⟩

/-! ### copy -/
theorem run_first {sa : Option Addr} {sl sc m : Nat} {news : List Value} {w : World} (hr : RdS L sa sl news) (hs : Sep L w.ph) (hm : m ≤ sl) :
    (Builtin.firstCells 1 m (.slice sa sl sc)).run P w = .ok (news.take m).toArray w := by
  obtain ⟨h1, h2⟩ := hr
  obtain ⟨hl, hc⟩ := h2 _ hs
  rcases hc with h0 | ⟨q, off, cs, t, fr, rfl, hq, hcell⟩
  · subst h0
    obtain rfl : m = 0 := by omega
    cases sa <;> simp [Builtin.firstCells, loadCells, loadCellsFrom]
  · have hlen : (news.take m).length = m := by simp; omega
    have := run_loadCells_list (P := P) w ⟨q, off, none⟩ (news.take m) (fun j v hv => by
      rw [addr_add]
      rw [List.getElem?_take] at hv
      split at hv
      · exact cell_ph hq (hcell j v hv)
      · cases hv)
    rw [hlen] at this
    simp [Builtin.firstCells, this]

theorem CX.copyOwn {t u e e' s : Nat} [E : ElemA P t e 1] {x y : Operand} {b o dl dc k cap sl sc m : Nat} {sa : Option Addr} {xs news : List Value} {M : List Assn} (hg : gd ops n env g = some true)
    (hx : ev n env x = some (.slice (some ⟨b, o, none⟩) dl dc)) (hy : ev n env y = some (.slice sa sl sc)) (hr : RdS L sa sl news) (p : Pick (own e' s (some ⟨b, 0, none⟩) k cap xs) L M) (hm : m = Nat.min sl dl) (hl : o + m ≤ k * s)
    (h : CX P ops Q n e0 (putE env dst (.int .i64 (m : Int))) (own e' s (some ⟨b, 0, none⟩) k cap (setL xs o (news.take m)) :: M) rest) :
    CX P ops Q n e0 env L (⟨dst, .call ⟨.builtin .copy, #[x, y], #[t, u]⟩, ty, pos, aft, g⟩ :: rest) := by
  refine CX.step hg fun a w hf hs he K hK => ?_
  obtain ⟨q1, q2, q3, q4⟩ := own_ok.1 (p.ok hs)
  rcases q4 with ⟨hh, _⟩ | ⟨b', cur, e1, hgc, hsz, ht⟩
  · cases hh
  simp only [Option.some.injEq, Addr.mk.injEq, and_true, true_and] at e1
  subst e1
  have hle : k * s ≤ cap * s := Nat.mul_le_mul_right _ q2
  have hms : m ≤ sl := by subst hm; exact Nat.min_le_left _ _
  have hfirst := run_first (P := P) (sc := sc) hr hs hms
  have hlen : (news.take m).length = m := by
    obtain ⟨hl2, _⟩ := hr.2 _ hs
    simp; omega
  obtain ⟨w', hrs, hph, he'⟩ := run_storeCells_ph (P := P) o (news.take m) 0 cur.toList w (by simpa using hgc) (by rw [hlen]; simp; omega) (.inr (Nat.le_refl _)) (fun v hv => hr.1 v (List.mem_of_mem_take hv))
  have hrun : (execOp a.eval ⟨dst, .call ⟨.builtin .copy, #[x, y], #[t, u]⟩, ty, pos, aft, g⟩).run P w = .ok (.value (.int .i64 (m : Int))) w' := by
    rw [hm] at hfirst hrs
    simp [execOp, resolve, invoke, builtin, hf.eval hx, hf.eval hy, Builtin.copy_, run_underlying E.under, Builtin.lenOf, E.size w, hfirst, hrs, goInt, hm]
  unfold Oper.wp
  rw [hrun]
  refine hK _ _ (h _ _ (hf.put dst _) ?_ (he.trans he'))
  rw [hph]
  refine Sep.upd (.head _) (fun q hq => ?_) (fun q hq hok => ?_) (p.sep hs)
  · obtain ⟨_, _, _, r4⟩ := own_ok.1 hq
    rcases r4 with ⟨hh, _⟩ | ⟨b', c', e', hc, _⟩
    · cases hh
    · simp only [Option.some.injEq, Addr.mk.injEq, and_true, true_and] at e'
      subst e'; simp [hc]
  · refine own_ok.2 ⟨?_, q2, q3, .inr ⟨b, _, rfl, by simp [PH.put]; rfl, ?_, ?_⟩⟩
    · rw [length_setL _ _ _ (by rw [hlen]; omega)]; exact q1
    · simp; rw [length_setL _ _ _ (by rw [hlen]; simp; omega)]; simpa using hsz
    · rw [← ht]
      simp only [setL, List.take_append, List.length_take, Array.length_toList]
      have hmn : min m news.length = m := by simpa using hlen
      have h1 : min o cur.size = o := by omega
      have h2 : min o (min (k * s) cur.size) = o := by omega
      simp only [List.take_take, h1, Nat.zero_add, hmn]
      have h3 : min (k * s) o = o := by omega
      have h4 : min o (k * s) = o := by omega
      have h5 : min (k * s - o) m = m := by omega
      rw [h3, h4, h5]
      congr 2
      rw [List.drop_take]
      congr 1
      omega

theorem CX.copyBk {t u e bt : Nat} [E : ElemA P t e 1] {x y : Operand} {b o dl dc sl sc m : Nat} {sa : Option Addr} {xs news : List Value} {L' : List Assn} (hg : gd ops n env g = some true)
    (hx : ev n env x = some (.slice (some ⟨b, o, none⟩) dl dc)) (hy : ev n env y = some (.slice sa sl sc)) (hr : RdS L sa sl news) (p : Upd (bk b bt xs) (bk b bt (setL xs o (news.take m))) L L') (hm : m = Nat.min sl dl) (hl : o + m ≤ xs.length)
    (h : CX P ops Q n e0 (putE env dst (.int .i64 (m : Int))) L' rest) :
    CX P ops Q n e0 env L (⟨dst, .call ⟨.builtin .copy, #[x, y], #[t, u]⟩, ty, pos, aft, g⟩ :: rest) := by
  refine CX.step hg fun a w hf hs he K hK => ?_
  obtain ⟨M, pa, _⟩ := p.pick
  have e1 := bk_ok.1 (pa.ok hs)
  have hms : m ≤ sl := by subst hm; exact Nat.min_le_left _ _
  have hfirst := run_first (P := P) (sc := sc) hr hs hms
  have hlen : (news.take m).length = m := by
    obtain ⟨hl2, _⟩ := hr.2 _ hs
    simp; omega
  obtain ⟨w', hrs, hph, he'⟩ := run_storeCells_ph (P := P) o (news.take m) 0 xs w e1 (by rw [hlen]; omega) (.inr (Nat.le_refl _)) (fun v hv => hr.1 v (List.mem_of_mem_take hv))
  have hrun : (execOp a.eval ⟨dst, .call ⟨.builtin .copy, #[x, y], #[t, u]⟩, ty, pos, aft, g⟩).run P w = .ok (.value (.int .i64 (m : Int))) w' := by
    rw [hm] at hfirst hrs
    simp [execOp, resolve, invoke, builtin, hf.eval hx, hf.eval hy, Builtin.copy_, run_underlying E.under, Builtin.lenOf, E.size w, hfirst, hrs, goInt, hm]
  unfold Oper.wp
  rw [hrun]
  refine hK _ _ (h _ _ (hf.put dst _) ?_ (he.trans he'))
  rw [hph]
  refine Sep.upd p (fun q hq => ?_) (fun q hq hok => ?_) hs
  · simp [bk_ok.1 hq]
  · exact bk_ok.2 (by simp [PH.put])

/-! ### A part of the memory behind a word, opened and shut -/
/-- There is an x that fits, and so the parts that it tells of stand side by side. -/
@[irreducible] def exA {X : Type} (good : X → Prop) (M : X → List Assn) : Assn where
  ok h := ∃ x, good x ∧ Sep (M x) h
  mono := fun _ _ l ⟨x, hx, s⟩ => ⟨x, hx, s.mono l⟩
theorem exA_ok {X : Type} {good : X → Prop} {M : X → List Assn} {h : PH} : (exA good M).ok h ↔ ∃ x, good x ∧ Sep (M x) h := by unfold exA; exact Iff.rfl

theorem Sep.open {X : Type} {good : X → Prop} {M : X → List Assn} {L' : List Assn} {h : PH} (p : Pick (exA good M) L L') (s : Sep L h) : ∃ x, good x ∧ Sep (M x ++ L') h := by
  obtain ⟨S, a, b⟩ := p.sep s
  obtain ⟨x, hx, sx⟩ := exA_ok.1 a
  exact ⟨x, hx, Sep.join S sx b⟩
theorem Sep.shut {X : Type} {good : X → Prop} {M : X → List Assn} {L' : List Assn} {h : PH} (x : X) (hx : good x) (p : Sel L (M x) L') (s : Sep L h) : Sep (exA good M :: L') h := by
  obtain ⟨S, a, b⟩ := (p.sep s).append
  exact ⟨S, exA_ok.2 ⟨x, hx, a⟩, b⟩

theorem CC.open {c : Code} {X : Type} {good : X → Prop} {M : X → List Assn} {L' : List Assn} (p : Pick (exA good M) L L') (h : ∀ x, good x → CC P c Q n e0 env (M x ++ L')) : CC P c Q n e0 env L := fun a w hf hs he => by
  obtain ⟨x, hx, s⟩ := hs.open p
  exact h x hx a w hf s he
theorem CX.open {X : Type} {good : X → Prop} {M : X → List Assn} {L' : List Assn} (p : Pick (exA good M) L L') (h : ∀ x, good x → CX P ops Q n e0 env (M x ++ L') rest) : CX P ops Q n e0 env L rest := fun a w hf hs he => by
  obtain ⟨x, hx, s⟩ := hs.open p
  exact h x hx a w hf s he
theorem CC.shut {c : Code} {X : Type} {good : X → Prop} {M : X → List Assn} {L' : List Assn} (x : X) (hx : good x) (p : Sel L (M x) L') (h : CC P c Q n e0 env (exA good M :: L')) : CC P c Q n e0 env L := fun a w hf hs he => h a w hf (hs.shut x hx p) he
theorem CX.shut {X : Type} {good : X → Prop} {M : X → List Assn} {L' : List Assn} (x : X) (hx : good x) (p : Sel L (M x) L') (h : CX P ops Q n e0 env (exA good M :: L') rest) : CX P ops Q n e0 env L rest := fun a w hf hs he => h a w hf (hs.shut x hx p) he
theorem CQ.shut {K : Act → World → Prop} {X : Type} {good : X → Prop} {M : X → List Assn} {L' : List Assn} (x : X) (hx : good x) (p : Sel L (M x) L') (h : CQ K n e0 env (exA good M :: L')) : CQ K n e0 env L := fun a w hf hs he => h a w hf (hs.shut x hx p) he
theorem CX.openL {A : Assn} {X : Type} {good : X → Prop} {M : X → List Assn} {L' : List Assn} (e : A = exA good M) (p : Pick A L L') (h : ∀ x, good x → CX P ops Q n e0 env (M x ++ L') rest) : CX P ops Q n e0 env L rest := by subst e; exact CX.open p h
theorem CC.openL {c : Code} {A : Assn} {X : Type} {good : X → Prop} {M : X → List Assn} {L' : List Assn} (e : A = exA good M) (p : Pick A L L') (h : ∀ x, good x → CC P c Q n e0 env (M x ++ L')) : CC P c Q n e0 env L := by subst e; exact CC.open p h
theorem CX.shutL {A : Assn} {X : Type} {good : X → Prop} {M : X → List Assn} {L' : List Assn} (e : A = exA good M) (x : X) (hx : good x) (p : Sel L (M x) L') (h : CX P ops Q n e0 env (A :: L') rest) : CX P ops Q n e0 env L rest := by subst e; exact CX.shut x hx p h
theorem CQ.shutL {K : Act → World → Prop} {A : Assn} {X : Type} {good : X → Prop} {M : X → List Assn} {L' : List Assn} (e : A = exA good M) (x : X) (hx : good x) (p : Sel L (M x) L') (h : CQ K n e0 env (A :: L')) : CQ K n e0 env L := by subst e; exact CQ.shut x hx p h
theorem CC.shutL {c : Code} {A : Assn} {X : Type} {good : X → Prop} {M : X → List Assn} {L' : List Assn} (e : A = exA good M) (x : X) (hx : good x) (p : Sel L (M x) L') (h : CC P c Q n e0 env (A :: L')) : CC P c Q n e0 env L := by subst e; exact CC.shut x hx p h
theorem CX.allocAs {t : Nat} {v : Value} [Z : ZeroA P t v] (cs : List Value) (hv : v.cells.toList = cs) (hg : gd ops n env g = some true)
    (h : ∀ b, CX P ops Q n e0 (putE env dst (.pointer (some ⟨b, 0, none⟩))) (bk b t cs :: L) rest) : CX P ops Q n e0 env L (⟨dst, .alloc t, ty, pos, aft, g⟩ :: rest) := by
  subst hv; exact CX.alloc hg h
theorem CX.ownNil (e sz : Nat) (h : CX P ops Q n e0 env (own e sz none 0 0 [] :: L) rest) : CX P ops Q n e0 env L rest := fun a w hf hs he => h a w hf (hs.ownNil e sz) he
theorem CC.ownNil {c : Code} (e sz : Nat) (h : CC P c Q n e0 env (own e sz none 0 0 [] :: L)) : CC P c Q n e0 env L := fun a w hf hs he => h a w hf (hs.ownNil e sz) he
theorem CQ.ownNil {K : Act → World → Prop} (e sz : Nat) (h : CQ K n e0 env (own e sz none 0 0 [] :: L)) : CQ K n e0 env L := fun a w hf hs he => h a w hf (hs.ownNil e sz) he
end
end Go.Cx
