/- Separation logic over the model's heap: assertions on parts of the heap, lists of them that stand side by side. No program in sight. -/
import Derived.Calls
import Derived.Below
namespace Go.Cx
abbrev PH := Nat → Option Obj
end Go.Cx
namespace Go
def World.ph (w : World) : Cx.PH := fun b => w.heap[b]?
end Go
namespace Go.Cx

def PH.only (h : PH) (S : Nat → Bool) : PH := fun b => if S b then h b else none
def PH.less (h : PH) (S : Nat → Bool) : PH := fun b => if S b then none else h b
def PH.put (h : PH) (b : Nat) (o : Obj) : PH := fun c => if c = b then some o else h c
def Le (h k : PH) : Prop := ∀ b o, h b = some o → k b = some o

theorem Le.refl (h : PH) : Le h h := fun _ _ e => e
theorem Le.trans {a b c : PH} (h : Le a b) (k : Le b c) : Le a c := fun x o e => k x o (h x o e)
theorem Le.only {h k : PH} (l : Le h k) (S : Nat → Bool) : Le (h.only S) (k.only S) := fun b o e => by
  unfold PH.only at *; split at e <;> simp_all; exact l b o e
theorem Le.less {h k : PH} (l : Le h k) (S : Nat → Bool) : Le (h.less S) (k.less S) := fun b o e => by
  unfold PH.less at *; split at e <;> simp_all; exact l b o e
theorem only_le (h : PH) (S : Nat → Bool) : Le (h.only S) h := fun b o e => by
  unfold PH.only at e; split at e <;> simp_all
theorem less_le (h : PH) (S : Nat → Bool) : Le (h.less S) h := fun b o e => by
  unfold PH.less at e; split at e <;> simp_all

structure Assn where
  ok : PH → Prop
  mono : ∀ h k, Le h k → ok h → ok k

def Sep : List Assn → PH → Prop
  | [], _ => True
  | A :: L, h => ∃ S : Nat → Bool, A.ok (h.only S) ∧ Sep L (h.less S)

theorem Sep.mono {L : List Assn} : ∀ {h k : PH}, Le h k → Sep L h → Sep L k := by
  induction L with
  | nil => intro _ _ _ _; trivial
  | cons A L ih =>
    rintro h k l ⟨S, a, b⟩
    exact ⟨S, A.mono _ _ (l.only S) a, ih (l.less S) b⟩

theorem Sep.tail {A : Assn} {L : List Assn} {h : PH} (s : Sep (A :: L) h) : Sep L h := by
  obtain ⟨S, _, b⟩ := s; exact b.mono (less_le _ _)
theorem Sep.head {A : Assn} {L : List Assn} {h : PH} (s : Sep (A :: L) h) : A.ok h := by
  obtain ⟨S, a, _⟩ := s; exact A.mono _ _ (only_le _ _) a

theorem Sep.swap {A B : Assn} {L : List Assn} {h : PH} (s : Sep (A :: B :: L) h) : Sep (B :: A :: L) h := by
  obtain ⟨S, a, T, b, c⟩ := s
  refine ⟨fun x => T x && !S x, ?_, S, ?_, ?_⟩
  · have : (h.less S).only T = h.only fun x => T x && !S x := by
      funext x; simp only [PH.only, PH.less]; by_cases e1 : S x = true <;> by_cases e2 : T x = true <;> simp [e1, e2]
    rw [← this]; exact b
  · have : (h.less fun x => T x && !S x).only S = h.only S := by
      funext x; simp only [PH.only, PH.less]; by_cases e1 : S x = true <;> by_cases e2 : T x = true <;> simp [e1, e2]
    rw [this]; exact a
  · have : (h.less fun x => T x && !S x).less S = (h.less S).less T := by
      funext x; simp only [PH.less]; by_cases e1 : S x = true <;> by_cases e2 : T x = true <;> simp [e1, e2]
    rw [this]; exact c

theorem Sep.cons_mono {A : Assn} {L M : List Assn} (f : ∀ h, Sep L h → Sep M h) {h : PH} (s : Sep (A :: L) h) : Sep (A :: M) h := by
  obtain ⟨S, a, b⟩ := s; exact ⟨S, a, f _ b⟩

/-- A is one of L; L' are the others. -/
inductive Pick (A : Assn) : List Assn → List Assn → Prop
  | head (L : List Assn) : Pick A (A :: L) L
  | tail {B : Assn} {L L' : List Assn} (p : Pick A L L') : Pick A (B :: L) (B :: L')

theorem Pick.sep {A : Assn} {L L' : List Assn} (p : Pick A L L') : ∀ {h : PH}, Sep L h → Sep (A :: L') h := by
  induction p with
  | head L => exact fun s => s
  | tail p ih => intro h s; exact Sep.swap (Sep.cons_mono (fun _ => ih) s)

theorem Pick.back {A : Assn} {L L' : List Assn} (p : Pick A L L') : ∀ {h : PH}, Sep (A :: L') h → Sep L h := by
  induction p with
  | head L => exact fun s => s
  | tail p ih => intro h s; exact Sep.cons_mono (fun _ => ih) (Sep.swap s)

theorem Pick.ok {A : Assn} {L L' : List Assn} (p : Pick A L L') {h : PH} (s : Sep L h) : A.ok h := (p.sep s).head

/-- H are some of L; L' are the others. -/
inductive Sel : List Assn → List Assn → List Assn → Prop
  | nil (L : List Assn) : Sel L [] L
  | cons {A : Assn} {L L1 H L' : List Assn} (p : Pick A L L1) (s : Sel L1 H L') : Sel L (A :: H) L'

theorem Sel.sep {L H L' : List Assn} (s : Sel L H L') : ∀ {h : PH}, Sep L h → Sep (H ++ L') h := by
  induction s with
  | nil L => exact fun s => s
  | cons p s ih => intro h x; exact Sep.cons_mono (fun _ => ih) (p.sep x)

theorem Sep.append {H L : List Assn} : ∀ {h : PH}, Sep (H ++ L) h → ∃ S, Sep H (h.only S) ∧ Sep L (h.less S) := by
  induction H with
  | nil => intro h s; exact ⟨fun _ => false, trivial, by
      have : h.less (fun _ => false) = h := by funext x; simp [PH.less]
      rw [this]; exact s⟩
  | cons A H ih =>
    rintro h ⟨S, a, b⟩
    obtain ⟨T, c, d⟩ := ih b
    refine ⟨fun x => S x || T x, ⟨S, ?_, ?_⟩, ?_⟩
    · have : (h.only fun x => S x || T x).only S = h.only S := by funext x; simp only [PH.only]; by_cases e1 : S x = true <;> by_cases e2 : T x = true <;> simp [e1, e2]
      rw [this]; exact a
    · have : (h.only fun x => S x || T x).less S = (h.less S).only T := by funext x; simp only [PH.only, PH.less]; by_cases e1 : S x = true <;> by_cases e2 : T x = true <;> simp [e1, e2]
      rw [this]; exact c
    · have : h.less (fun x => S x || T x) = (h.less S).less T := by funext x; simp only [PH.less]; by_cases e1 : S x = true <;> by_cases e2 : T x = true <;> simp [e1, e2]
      rw [this]; exact d

theorem Sep.join {H L : List Assn} : ∀ {h : PH} (S : Nat → Bool), Sep H (h.only S) → Sep L (h.less S) → Sep (H ++ L) h := by
  induction H with
  | nil => intro h S _ s; exact s.mono (less_le _ _)
  | cons A H ih =>
    rintro h S ⟨T, a, b⟩ c
    refine ⟨fun x => S x && T x, ?_, ih (fun x => S x) ?_ ?_⟩
    · have : (h.only S).only T = h.only fun x => S x && T x := by funext x; simp only [PH.only]; by_cases e1 : S x = true <;> by_cases e2 : T x = true <;> simp [e1, e2]
      rw [← this]; exact a
    · have : (h.less fun x => S x && T x).only S = (h.only S).less T := by funext x; simp only [PH.only, PH.less]; by_cases e1 : S x = true <;> by_cases e2 : T x = true <;> simp [e1, e2]
      rw [this]; exact b
    · have : (h.less fun x => S x && T x).less S = h.less S := by funext x; simp only [PH.less]; by_cases e1 : S x = true <;> by_cases e2 : T x = true <;> simp [e1, e2]
      rw [this]; exact c

/-- A part of the heap just as it is. -/
def exact (x : PH) : Assn := ⟨fun h => Le x h, fun _ _ l e => e.trans l⟩

theorem Sep.rest {H L : List Assn} {h : PH} (s : Sep (H ++ L) h) : ∃ x, Sep (H ++ [exact x]) h ∧ Sep L x := by
  obtain ⟨S, a, b⟩ := s.append
  refine ⟨h.less S, Sep.join S a ?_, b⟩
  exact ⟨fun _ => true, fun b o e => by simpa [PH.only] using e, trivial⟩

theorem Sep.unrest {H L : List Assn} {h x : PH} (s : Sep (H ++ [exact x]) h) (r : Sep L x) : Sep (H ++ L) h := by
  obtain ⟨S, a, b⟩ := s.append
  exact Sep.join S a (r.mono b.head)

theorem Sep.app_mono {H L M : List Assn} (f : ∀ h, Sep L h → Sep M h) {h : PH} (s : Sep (H ++ L) h) : Sep (H ++ M) h := by
  obtain ⟨S, a, b⟩ := s.append
  exact Sep.join S a (f _ b)

theorem Sep.left {H L : List Assn} {h : PH} (s : Sep (H ++ L) h) : Sep H h := by
  obtain ⟨S, a, _⟩ := s.append; exact a.mono (only_le _ _)
theorem Sep.right {H L : List Assn} {h : PH} (s : Sep (H ++ L) h) : Sep L h := by
  obtain ⟨S, _, b⟩ := s.append; exact b.mono (less_le _ _)

/-- One of L is written over: A becomes A'. -/
inductive Upd (A A' : Assn) : List Assn → List Assn → Prop
  | head (L : List Assn) : Upd A A' (A :: L) (A' :: L)
  | tail {B : Assn} {L L' : List Assn} (p : Upd A A' L L') : Upd A A' (B :: L) (B :: L')

theorem Upd.pick {A A' : Assn} {L L' : List Assn} (u : Upd A A' L L') : ∃ M, Pick A L M ∧ Pick A' L' M := by
  induction u with
  | head L => exact ⟨L, .head L, .head L⟩
  | tail _ ih => obtain ⟨M, a, b⟩ := ih; exact ⟨_, .tail a, .tail b⟩

theorem Sep.upd {A A' : Assn} {L L' : List Assn} (u : Upd A A' L L') {h : PH} {b : Nat} {o : Obj}
    (h1 : ∀ k, A.ok k → (k b).isSome = true) (h2 : ∀ k, Le k h → A.ok k → A'.ok (k.put b o)) (s : Sep L h) : Sep L' (h.put b o) := by
  obtain ⟨M, pa, pb⟩ := u.pick
  refine pb.back ?_
  obtain ⟨S, a, c⟩ := pa.sep s
  have hS : S b = true := by
    have := h1 _ a
    unfold PH.only at this
    split at this
    · assumption
    · simp at this
  refine ⟨S, ?_, ?_⟩
  · have : (h.put b o).only S = (h.only S).put b o := by
      funext x; simp only [PH.only, PH.put]; by_cases e : x = b
      · subst e; simp [hS]
      · simp [e]
    rw [this]; exact h2 _ (only_le _ _) a
  · have : (h.put b o).less S = h.less S := by
      funext x; simp only [PH.less, PH.put]; by_cases e : x = b
      · subst e; simp [hS]
      · simp [e]
    rw [this]; exact c

/-- A new block. -/
theorem Sep.push {A : Assn} {L : List Assn} {h : PH} {b : Nat} {o : Obj} (hb : h b = none) (hA : ∀ k : PH, k b = some o → A.ok k) (s : Sep L h) : Sep (A :: L) (h.put b o) := by
  refine ⟨fun x => x == b, hA _ (by simp [PH.only, PH.put]), ?_⟩
  have : (h.put b o).less (fun x => x == b) = h := by
    funext x; simp only [PH.less, PH.put]; by_cases e : x = b
    · subst e; simp [hb]
    · simp [e]
  rw [this]; exact s

theorem ph_alloc (w : World) (o : Obj) : (w.alloc o).ph = w.ph.put w.heap.size o := by
  funext b
  show (w.heap.push o)[b]? = _
  unfold PH.put World.ph
  rw [Array.getElem?_push]
theorem ph_size (w : World) : w.ph w.heap.size = none := by simp [World.ph]

/-- Block b is a row of cells, none of which is frozen. -/
@[irreducible] def bk (b t : Nat) (cs : List Value) : Assn where
  ok h := h b = some (.cells cs.toArray t (0, 0))
  mono := fun _ _ l e => l _ _ e

theorem bk_ok {b t : Nat} {cs : List Value} {h : PH} : (bk b t cs).ok h ↔ h b = some (.cells cs.toArray t (0, 0)) := by
  unfold bk; exact Iff.rfl

theorem Sep.alloc {L : List Assn} {w : World} (s : Sep L w.ph) (t : Nat) (cs : List Value) : Sep (bk w.heap.size t cs :: L) (w.alloc (.cells cs.toArray t)).ph := by
  rw [ph_alloc]
  exact s.push (ph_size w) fun k e => bk_ok.2 e

/-- What is the same of two worlds, but for the memory. -/
structure Env0 (w w' : World) : Prop where
  os : w'.os = w.os
  tape : w'.tape = w.tape
  output : w'.output = w.output
theorem Env0.refl (w : World) : Env0 w w := ⟨rfl, rfl, rfl⟩
theorem Env0.trans {a b c : World} (h : Env0 a b) (k : Env0 b c) : Env0 a c := ⟨k.os.trans h.os, k.tape.trans h.tape, k.output.trans h.output⟩

theorem below_of_exact {w w' : World} (h : Le w.ph w'.ph) (e : Env0 w w') : Go.RowKit.Below w.heap.size w w' := by
  refine ⟨e.os, e.tape, e.output, ?_, fun k hk => ?_⟩
  · rcases Nat.lt_or_ge w'.heap.size w.heap.size with hlt | hge
    · exfalso
      have := h w'.heap.size w.heap[w'.heap.size] (by simp [World.ph, hlt])
      simp [World.ph] at this
    · exact hge
  · have := h k w.heap[k] (by simp [World.ph, hk])
    simp only [World.ph] at this
    rw [this]; simp [hk]
end Go.Cx
