/- A range over a function: the loop's body is walked in a round, the iterator by its contract. No program in sight. -/
import Derived.Test.YtlckhaodecdbbaaCg
import Derived.RangeFuncRecord
import Derived.RangeFuncSeq
import Derived.OrdersIn
import Derived.TacticsIn
set_option linter.unusedSimpArgs false
set_option linter.unusedVariables false
namespace Go.Cx
/-- Block b holds an object. -/
@[irreducible] def ob (b : Nat) (o : Obj) : Assn where
  ok h := h b = some o
  mono := fun _ _ l e => l _ _ e
theorem ob_ok {b : Nat} {o : Obj} {h : PH} : (ob b o).ok h ↔ h b = some o := by
  unfold ob; exact Iff.rfl
theorem ph_putObj {w : World} {b : Nat} {o : Obj} (h : b < w.heap.size) : (w.putObj b o).ph = w.ph.put b o := by
  funext c
  simp only [World.ph, World.putObj, PH.put]
  by_cases e : c = b
  · subst e; simp [h]
  · simp [e, Array.getElem?_setIfInBounds_ne (Ne.symm e)]
theorem ph_lt {w : World} {b : Nat} {o : Obj} (h : w.ph b = some o) : b < w.heap.size := by
  simp only [World.ph] at h; exact (Array.getElem?_eq_some_iff.1 h).1
theorem Sep.obj {L M : List Assn} {b : Nat} {o : Obj} {w : World} (p : Pick (ob b o) L M) (s : Sep L w.ph) (o' : Obj) : Sep (ob b o' :: M) (w.putObj b o').ph := by
  have hb := ob_ok.1 (p.ok s)
  rw [ph_putObj (ph_lt hb)]
  have u : Upd (ob b o) (ob b o') (ob b o :: M) (ob b o' :: M) := .head _
  exact Sep.upd u (fun k hk => by rw [ob_ok.1 hk]; rfl) (fun k _ _ => ob_ok.2 (by simp [PH.put])) (p.sep s)
theorem Sep.allocO {L : List Assn} {w : World} (s : Sep L w.ph) (o : Obj) : Sep (ob w.heap.size o :: L) (w.alloc o).ph := by
  rw [ph_alloc]; exact s.push (ph_size w) fun k e => ob_ok.2 e
theorem env_alloc (w : World) (o : Obj) : Env0 w (w.alloc o) := ⟨rfl, rfl, rfl⟩
theorem env_put (w : World) (b : Nat) (o : Obj) : Env0 w (w.putObj b o) := ⟨rfl, rfl, rfl⟩

theorem pick_mid (A : Assn) : ∀ (H L : List Assn), Pick A (H ++ A :: L) (H ++ L)
  | [], L => .head L
  | B :: H, L => .tail (pick_mid A H L)

def noDefer : Op → Bool
  | .defer _ => false
  | _ => true
theorem noDefer_ne {o : Op} (h : noDefer o = true) : ∀ c, o ≠ .defer c := fun c e => by subst e; cases h
/-- The fence that lets all in, of frames of a round, or not. -/
abbrev FW (ro : Option Nat) : Fence := { Fence.wide with round := ro }
theorem FW_depth (ro : Option Nat) : (FW ro).depth.isSome = true → 1 ≤ 0 := fun h => by cases h

section
variable {P : Program} {ops : Array Oper} {Q : Exit → Act → World → Prop}
theorem Oper.wp_wpIn {o : Oper} {a : Act} {w : World} {K : Act → World → Prop} (ro : Option Nat) (hd : noDefer o.op = true) (h : o.wp P a w K Q) : o.wpIn (FW ro) 0 P a w K Q := by
  refine ⟨fun _ _ => trivial, ?_⟩
  unfold Oper.wp at h
  rw [Oper.semAt_eq _ _ _ (noDefer_ne hd)]
  generalize (execOp a.eval o).run P w = r at *
  cases r with
  | ok x w' =>
    cases x <;> simp only [Oper.upon, Oper.uponIn] at h ⊢ <;> first
      | exact h
      | exact h.elim
      | exact ⟨FW_depth ro, callsIn_wide.2 h⟩
      | exact ⟨FW_depth ro, fun c cs _ => let ⟨v, w', r, s⟩ := h c cs; ⟨v, w', r, stepsIn_wide.2 s⟩⟩
  | halt x w' => cases x <;> simp only [Oper.upon, Oper.uponIn] at h ⊢ <;> exact h

theorem wpList_in (ro : Option Nat) (hQ : ∀ a w, ¬ Q .outgrown a w) : ∀ (l : List Oper) (a : Act) (w : World), l.all (fun o => noDefer o.op) = true → wpList P ops Q l a w → wpListIn (FW ro) 0 P ops Q l a w
  | [], _, _, _, h => h
  | o :: l, a, w, hd, h => by
    simp only [List.all_cons, Bool.and_eq_true] at hd
    unfold wpList at h
    unfold wpListIn
    split
    · rename_i hw
      rw [if_pos hw] at h
      rcases h with h | ⟨_, a0, w0, h⟩
      · exact Oper.wpIn_mono (fun a w => wpList_in ro hQ l a w hd.2) (Oper.wp_wpIn ro hd.1 h)
      · exact (hQ _ _ h).elim
    · rename_i hw
      rw [if_neg hw] at h
      exact ⟨fun _ _ => trivial, wpList_in ro hQ l _ w hd.2 h⟩

theorem wpOp_in (ro : Option Nat) (hQ : ∀ a w, ¬ Q .outgrown a w) (hd : ops.toList.all (fun o => noDefer o.op) = true) {i : Nat} {K : Act → World → Prop} {a : Act} {w : World} (h : wpOp P ops Q i K a w) : wpOpIn (FW ro) 0 P ops Q i K a w := by
  unfold wpOp at h
  unfold wpOpIn
  split
  · rename_i e; rw [e] at h; exact h
  · rename_i o e
    rw [e] at h
    simp only at h
    have hdo : noDefer o.op = true := by
      have := List.all_eq_true.1 hd o (by
        have := Array.mem_of_getElem? e
        simpa using this)
      exact this
    split
    · rename_i hw
      rw [if_pos hw] at h
      rcases h with h | ⟨_, a0, w0, h⟩
      · exact Oper.wp_wpIn ro hdo h
      · exact (hQ _ _ h).elim
    · rename_i hw
      rw [if_neg hw] at h
      exact ⟨fun _ _ => trivial, h⟩

theorem wpAny_in {md : Region.Mode} (ro : Option Nat) (hQ : ∀ a w, ¬ Q .outgrown a w) (hd : ops.toList.all (fun o => noDefer o.op) = true) : ∀ (fuel : Nat) (listed : Array Bool) (a : Act) (w : World), wpAny P md ops Q fuel listed a w → wpAnyIn (FW ro) 0 P md ops Q fuel listed a w
  | 0, _, _, _, h => h
  | fuel + 1, _, _, _, h => ⟨h.1, fun i hi => wpOpIn_mono (fun a w => wpAny_in ro hQ hd fuel _ a w) (wpOp_in ro hQ hd (h.2 i hi))⟩

/-- The same with deferred calls that stand by. -/
theorem eval_ds (a : Act) (ds : List Deferred) : Act.eval { a with defers := ds } = a.eval := funext fun x => by cases x <;> rfl
theorem put_ds (a : Act) (ds : List Deferred) (d : Option Tmp) (v : Value) : Act.put { a with defers := ds } d v = { a.put d v with defers := ds } := by cases d <;> rfl
end

/-! ### In a round -/
def CR (P : Program) (l : Nat) (c : Code) (Q : Exit → Act → World → Prop) (n : Nat) (e0 : World) (env : Env) (L : List Assn) : Prop :=
  ∀ a w, Fr n env a → Sep L w.ph → Env0 e0 w → c.wpIn (FW (some l)) 0 P Q a w
section
variable {P : Program} {ops : Array Oper} {Q : Exit → Act → World → Prop} {n l : Nat} {e0 : World} {env : Env} {L : List Assn} {rest : List Oper}
theorem CR.seq {x y : Code} (h : CR P l x (Exit.then (y.wpIn (FW (some l)) 0 P Q) Q) n e0 env L) : CR P l (.seq x y) Q n e0 env L := fun a w hf hs he => wpIn_seq (h a w hf hs he)
theorem CR.block {id : Nat} {c : Code} (h : CR P l c (Exit.inBlock id Q) n e0 env L) : CR P l (.block id c) Q n e0 env L := fun a w hf hs he => wpIn_block (h a w hf hs he)
theorem CR.skip (h : CQ (Q .normal) n e0 env L) : CR P l .skip Q n e0 env L := fun a w hf hs he => wpIn_skip (h a w hf hs he)
theorem CR.region {id : Nat} {os : List Oper} (h : CX P os.toArray Q n e0 env L os) (hd : os.all (fun o => noDefer o.op) = true := by rfl) (hQ : ∀ a w, ¬ Q .outgrown a w := by exact fun _ _ h => h) : CR P l (.region id os.toArray false) Q n e0 env L :=
  fun a w hf hs he => wpIn_region_lit (wpList_in (some l) hQ os a w hd (h a w hf hs he))
theorem CR.draw {id : Nat} {os : List Oper} (s : Order) (hm : P.follows .mixedOrders = true) (hl : os.length = s.length) (hB : ordB os.toArray (tails s) s (Array.replicate os.length false) = true)
    (hns : Region.noSelect os.toArray = true) (R : List Assn) (h : CH P os.toArray Q n e0 (tails s) R env L s) (hd : os.all (fun o => noDefer o.op) = true := by rfl) (hQ : ∀ a w, ¬ Q .outgrown a w := by exact fun _ _ h => h) : CR P l (.region id os.toArray true) Q n e0 env L := fun a w hf hs he => by
  refine Code.wpIn_mono NoPanic.imp (wpIn_region_any hm (wpAny_in (Q := NoPanic Q) (some l) (fun a w h => hQ a w h) hd _ _ _ _ (wpAny_of_T (S := fun w => Sep R w.ph) (T := tails s) _ _ _ _ ?_)))
  have := h hns (Array.replicate os.length false) hB a { w with drawn := w.drawn + 1 } hf hs (he.trans ⟨rfl, rfl, rfl⟩)
  simpa [hl] using this
theorem CR.condT {c : Operand} {x y : Code} (h : CR P l x Q n e0 env L) (hc : ev n env c = some (.bool true) := by rfl) : CR P l (.cond c x y) Q n e0 env L := fun a w hf hs he => wpIn_cond_true (hf.eval hc) (h a w hf hs he)
theorem CR.condF {c : Operand} {x y : Code} (h : CR P l y Q n e0 env L) (hc : ev n env c = some (.bool false) := by rfl) : CR P l (.cond c x y) Q n e0 env L := fun a w hf hs he => wpIn_cond_false (hf.eval hc) (h a w hf hs he)
theorem CR.condDT {c : Operand} {x y : Code} {p : Prop} {_ : Decidable p} (h : CR P l x Q n e0 env L) (hc : ev n env c = some (.bool (decide p)) := by rfl) (hp : p := by first | assumption | omega) : CR P l (.cond c x y) Q n e0 env L := CR.condT h (by rw [hc]; simp [hp])
theorem CR.condDF {c : Operand} {x y : Code} {p : Prop} {_ : Decidable p} (h : CR P l y Q n e0 env L) (hc : ev n env c = some (.bool (decide p)) := by rfl) (hp : ¬ p := by first | assumption | omega) : CR P l (.cond c x y) Q n e0 env L := CR.condF h (by rw [hc]; simp [hp])
theorem CR.weak {c : Code} {env' : Env} {L' M : List Assn} (hs : Sub env env') (hl : Sel L L' M) (h : CR P l c Q n e0 env' L') : CR P l c Q n e0 env L :=
  fun a w hf hsep he => h a w (hf.sub hs) (hl.sep hsep).left he
theorem CR.mem {c : Code} {L' : List Assn} (hl : ∀ h, Sep L h → Sep L' h) (h : CR P l c Q n e0 env L') : CR P l c Q n e0 env L :=
  fun a w hf hsep he => h a w hf (hl _ hsep) he
theorem CR.fact {c : Code} {p : Prop} (hp : ∀ h, Sep L h → p) (h : p → CR P l c Q n e0 env L) : CR P l c Q n e0 env L :=
  fun a w hf hs he => h (hp _ hs) a w hf hs he
theorem CQ.thenRN {y : Code} {Q' : Exit → Act → World → Prop} (h : CR P l y Q n e0 env L) : CQ (Exit.then (y.wpIn (FW (some l)) 0 P Q) Q' .normal) n e0 env L := h

/-- What is asked behind the assignments to a loop's left sides. -/
def Begin (P : Program) (l : Nat) (body : Code) (R : Ending → World → Prop) : Exit → Act → World → Prop :=
  Exit.then (fun a₁ w₁ => ∃ w₂, (Instr.beginRound l).run P w₁ = .ok () w₂ ∧ body.wpIn (FW (some l)) 0 P (roundPost P l R) a₁ w₂) (fun _ _ _ => False)
theorem CQ.begin {body : Code} {R : Ending → World → Prop} {r : Loop} {M : List Assn} (hr : r.state = .ready) (p : Pick (ob l (.loop r)) L M)
    (h : CR P l body (roundPost P l R) n e0 env (ob l (.loop { r with state := .busy }) :: M)) : CQ (Begin P l body R .normal) n e0 env L := fun a w hf hs he =>
  ⟨_, run_beginRound (ob_ok.1 (p.ok hs)) hr, h a _ hf (hs.obj p _) (he.trans (env_put _ _ _))⟩
theorem CQ.endRound {r : Loop} {L' M R : List Assn} {x : PH} {post : Value → List Assn → Prop} (p : Pick (ob l (.loop r)) L L') (hp : post (.bool true) M)
    (hl : Sel (ob l (.loop { r with state := .ready, pending := none }) :: L') (M ++ [exact x]) R) : CQ (roundPost P l (CtrR x e0 post) .normal) n e0 env L := fun a w hf hs he =>
  ⟨_, _, run_endRound none (ob_ok.1 (p.ok hs)), _, M, hp, rfl, (hl.sep (hs.obj p _)).left, he.trans (env_put _ _ _)⟩

/-! ### With the loop's mark among the deferred calls -/
def mark (D : Nat) : Deferred := { target := .collected D, args := #[] }
def QD (D : Nat) (K : Act → World → Prop) : Act → World → Prop := fun a w => K { a with defers := [mark D] } w
def CD (P : Program) (D : Nat) (c : Code) (Q : Exit → Act → World → Prop) (n : Nat) (e0 : World) (env : Env) (L : List Assn) : Prop :=
  ∀ a w, Fr n env a → Sep L w.ph → Env0 e0 w → c.wp P Q { a with defers := [mark D] } w
def CXD (P : Program) (D : Nat) (ops : Array Oper) (Q : Exit → Act → World → Prop) (n : Nat) (e0 : World) (env : Env) (L : List Assn) (rest : List Oper) : Prop :=
  ∀ a w, Fr n env a → Sep L w.ph → Env0 e0 w → wpList P ops Q rest { a with defers := [mark D] } w
variable {D : Nat}
theorem CD.seq {x y : Code} (h : CD P D x (Exit.then (y.wp P Q) Q) n e0 env L) : CD P D (.seq x y) Q n e0 env L := fun a w hf hs he => wp_seq (h a w hf hs he)
theorem CD.region {id : Nat} {os : List Oper} (h : CXD P D os.toArray Q n e0 env L os) : CD P D (.region id os.toArray false) Q n e0 env L := fun a w hf hs he => wp_region_lit (h a w hf hs he)
theorem CD.ret (h : CQ (QD D (Q .ret)) n e0 env L) : CD P D .ret Q n e0 env L := fun a w hf hs he => wp_ret (h a w hf hs he)
theorem QD.thenN {y : Code} {Q' : Exit → Act → World → Prop} (h : CD P D y Q n e0 env L) : CQ (QD D (Exit.then (y.wp P Q) Q' .normal)) n e0 env L := h
theorem QD.thenR {K : Act → World → Prop} (h : CQ (QD D (Q .ret)) n e0 env L) : CQ (QD D (Exit.then K Q .ret)) n e0 env L := h
theorem QD.blockN {id : Nat} (h : CQ (QD D (Q .normal)) n e0 env L) : CQ (QD D (Exit.inBlock id Q .normal)) n e0 env L := h
theorem CXD.nil (h : CQ (QD D (Q .normal)) n e0 env L) : CXD P D ops Q n e0 env L [] := fun a w hf hs he => h a w hf hs he
theorem CXD.ps {dst : Option Tmp} {ty : TypeId} {pos : String} {aft : Array Edge} {g : Option (Nat × Bool)} {op : Op} {v : Value} (h : CXD P D ops Q n e0 (putE env dst v) L rest)
    (hp : PS P ops n env L ⟨dst, op, ty, pos, aft, g⟩ v := by first | (apply PS.cmpT; (· rfl); (· rfl); (· first | assumption | omega | rfl | decide)) | (apply PS.cmpF; (· rfl); (· rfl); (· first | assumption | omega | rfl | decide)) | (apply PS.cmp <;> rfl) | (apply PS.notD <;> rfl) | (apply PS.auto <;> rfl) | (apply PS.fieldAddr <;> rfl) | (apply PS.load; (· rfl); (· rfl); (· apply CellAt.pick; (· repeat (first | exact .head _ | apply Pick.tail | apply Upd.tail)); (· rfl))) | (apply PS.arith; (· rfl); (· rfl); (· simp only [inR]; omega)) | (apply PS.convR; (· rfl); (· rfl); (· simp only [inR]; omega)) | (apply PS.lenSl <;> rfl) | (apply PS.capSl <;> rfl) | (apply PS.maxI <;> rfl) | (apply PS.minI <;> rfl) | (apply PS.eqlPtrNil <;> rfl) | (apply PS.neqPtrNil <;> rfl) | (apply PS.eqlSlNil <;> rfl) | (apply PS.makeFunc <;> rfl) | (apply PS.fieldS <;> rfl)) : CXD P D ops Q n e0 env L (⟨dst, op, ty, pos, aft, g⟩ :: rest) := fun a w hf hs he => by
  have hw : Region.wanted (⟨dst, op, ty, pos, aft, g⟩ : Oper) (yielded ops a.tmps) = true := gd_wanted hf hp.1
  unfold wpList
  rw [show ({ a with defers := [mark D] } : Act).tmps = a.tmps from rfl, hw]
  refine .inl ?_
  unfold Oper.wp
  rw [eval_ds, hp.2 a w hf hs]
  show wpList P ops Q rest _ w
  rw [put_ds]
  exact h _ _ (hf.put dst v) hs he

variable {fn : Func} {x : PH} {post : Value → List Assn → Prop}
abbrev bodyM (P : Program) (fn : Func) (R : Ending → World → Prop) := bodyPostM Fence.wide 0 P fn R
theorem CQ.endM1 {M R : List Assn} {r : ResultVar} {v : Value} (hr : fn.results = #[r]) (h : RV P n env L r v) (hp : post v M) (hl : Sel L (M ++ [exact x]) R) : CQ (bodyM P fn (CtrR x e0 post) .ret) n e0 env L :=
  fun a w hf hs he => by
    show LeavesInM _ _ _ _ _ _ _ _ _
    rw [hf.defers]
    exact ⟨_, fin1 hr h hf hs, _, M, hp, rfl, (hl.sep hs).left, he⟩
theorem CQ.endM2 {M R : List Assn} {r s : ResultVar} {v u : Value} (hr : fn.results = #[r, s]) (h : RV P n env L r v) (k : RV P n env L s u) (hp : post (.tuple #[v, u]) M) (hl : Sel L (M ++ [exact x]) R) : CQ (bodyM P fn (CtrR x e0 post) .ret) n e0 env L :=
  fun a w hf hs he => by
    show LeavesInM _ _ _ _ _ _ _ _ _
    rw [hf.defers]
    exact ⟨_, fin2 hr h k hf hs, _, M, hp, rfl, (hl.sep hs).left, he⟩
theorem leaves_mark {R : Ending → World → Prop} {a : Act} {w w' : World} (hk : (Instr.takeDeferred D).run P w = .ok [] w') (h : ∃ v, (results fn a.tmps).run P w' = .ok v w' ∧ R (.returned v) w') :
    bodyM P fn R .ret { a with defers := [mark D] } w := by
  show LeavesInM _ _ _ _ _ _ _ _ _
  exact ⟨by simp, .inl ⟨D, w', rfl, hk, h⟩⟩
theorem CQ.endD1 {L' M R : List Assn} {r : ResultVar} {v : Value} (hr : fn.results = #[r]) (p : Pick (ob D (.deferred (some []))) L L') (h : RV P n env L' r v) (hp : post v M) (hl : Sel L' (M ++ [exact x]) R) : CQ (QD D (bodyM P fn (CtrR x e0 post) .ret)) n e0 env L :=
  fun a w hf hs he => by
    have hs' := (hs.obj p (.deferred none)).tail
    exact leaves_mark (run_takeDeferred (ob_ok.1 (p.ok hs))) ⟨_, fin1 hr h hf hs', _, M, hp, rfl, (hl.sep hs').left, he.trans (env_put _ _ _)⟩
theorem CQ.endD2 {L' M R : List Assn} {r s : ResultVar} {v u : Value} (hr : fn.results = #[r, s]) (p : Pick (ob D (.deferred (some []))) L L') (h : RV P n env L' r v) (k : RV P n env L' s u) (hp : post (.tuple #[v, u]) M) (hl : Sel L' (M ++ [exact x]) R) : CQ (QD D (bodyM P fn (CtrR x e0 post) .ret)) n e0 env L :=
  fun a w hf hs he => by
    have hs' := (hs.obj p (.deferred none)).tail
    exact leaves_mark (run_takeDeferred (ob_ok.1 (p.ok hs))) ⟨_, fin2 hr h k hf hs', _, M, hp, rfl, (hl.sep hs').left, he.trans (env_put _ _ _)⟩
end

theorem Ctr.introM {P : Program} {f : FuncId} {fn : Func} {c : Code} {args : List Value} {H : List Assn} {pre : PH → Prop} {post : Value → List Assn → Prop} {n : Nat}
    (hf : P.funcs[f]? = some fn) (hb : fn.body = some c) (hn : fn.ntmps = n) (hl : Nat.ble args.length n = true)
    (h : ∀ x w, pre x → CC P c (bodyM P fn (CtrR x w post)) n w (argE args 0) (H ++ [exact x])) : Ctr P f args H pre post := by
  intro x w hs hp
  have hl' := Nat.le_of_ble_eq_true hl
  refine (callsIn_wide (n := 0)).1 (callsIn_of_wp_marks hf hb trivial (wpIn_wide.2 (h x w hp _ w ⟨rfl, ?_, fun t v ht hlk => ?_⟩ hs (Env0.refl w))))
  · simp [hn]; omega
  · obtain ⟨j, e, hj⟩ := look_argE _ _ _ _ hlk
    have hjl : j < args.length := (List.getElem?_eq_some_iff.1 hj).1
    subst e
    simp only [Nat.zero_add, Array.getD_eq_getD_getElem?]
    rw [Array.getElem?_append_left (by simpa using hjl)]
    simp [hj]

/-! ### The iterator -/
/-- The iterator's contract: it hands out encs, one behind the other, whatever a round does with its own memory. -/
def Iter (P : Program) (f : FuncId) (caps : List Value) (H : List Assn) (Rd : PH → Prop) (encs : List (List Value)) : Prop :=
  ∀ (l : Nat) (x : PH) (I : Nat → List Assn → Prop), Rd x →
    (∀ k v M y w, encs[k]? = some v → I k M → Le x y → Sep (M ++ [exact y]) w.ph → YieldAt Fence.wide 0 P l v.toArray w (CtrR y w (fun u M' => u = .bool true ∧ I (k + 1) M'))) →
    ∀ M0 w, I 0 M0 → Sep ((H ++ M0) ++ [exact x]) w.ph → Calls P f (.func (.yield l) #[] #[] :: caps).toArray w (CtrR x w (fun v M => v = .tuple #[] ∧ I encs.length M))

/-- A region in which yield is called. -/
def CXI (P : Program) (ops : Array Oper) (Q : Exit → Act → World → Prop) (n : Nat) (e0 : World) (env : Env) (L : List Assn) (rest : List Oper) : Prop :=
  ∀ a w, Fr n env a → Sep L w.ph → Env0 e0 w → wpListIn Fence.wide 0 P ops Q rest a w
section
variable {P : Program} {ops : Array Oper} {Q : Exit → Act → World → Prop} {n l : Nat} {e0 : World} {env : Env} {L : List Assn} {rest : List Oper}
variable {dst : Option Tmp} {ty : TypeId} {pos : String} {aft : Array Edge} {g : Option (Nat × Bool)} {op : Op}
theorem CC.regionI {id : Nat} {os : List Oper} (h : CXI P os.toArray Q n e0 env L os) : CC P (.region id os.toArray false) Q n e0 env L := fun a w hf hs he => (wpIn_wide (n := 0)).1 (wpIn_region_lit (h a w hf hs he))
theorem CXI.nil (h : CQ (Q .normal) n e0 env L) : CXI P ops Q n e0 env L [] := fun a w hf hs he => h a w hf hs he
theorem CXI.step (hg : gd ops n env g = some true)
    (h : ∀ a w, Fr n env a → Sep L w.ph → Env0 e0 w → (⟨dst, op, ty, pos, aft, g⟩ : Oper).wpIn Fence.wide 0 P a w (wpListIn Fence.wide 0 P ops Q rest) Q) : CXI P ops Q n e0 env L (⟨dst, op, ty, pos, aft, g⟩ :: rest) := by
  intro a w hf hs he
  have hw : Region.wanted (⟨dst, op, ty, pos, aft, g⟩ : Oper) (yielded ops a.tmps) = true := gd_wanted hf hg
  unfold wpListIn
  rw [hw]
  exact h a w hf hs he
theorem CXI.ps {v : Value} (h : CXI P ops Q n e0 (putE env dst v) L rest) (hp : PS P ops n env L ⟨dst, op, ty, pos, aft, g⟩ v := by first | (apply PS.cmpT; (· rfl); (· rfl); (· first | assumption | omega | rfl | decide)) | (apply PS.cmpF; (· rfl); (· rfl); (· first | assumption | omega | rfl | decide)) | (apply PS.cmp <;> rfl) | (apply PS.notD <;> rfl) | (apply PS.auto <;> rfl) | (apply PS.fieldAddr <;> rfl) | (apply PS.load; (· rfl); (· rfl); (· apply CellAt.pick; (· repeat (first | exact .head _ | apply Pick.tail | apply Upd.tail)); (· rfl))) | (apply PS.arith; (· rfl); (· rfl); (· simp only [inR]; omega)) | (apply PS.convR; (· rfl); (· rfl); (· simp only [inR]; omega)) | (apply PS.lenSl <;> rfl) | (apply PS.capSl <;> rfl) | (apply PS.maxI <;> rfl) | (apply PS.minI <;> rfl) | (apply PS.eqlPtrNil <;> rfl) | (apply PS.neqPtrNil <;> rfl) | (apply PS.eqlSlNil <;> rfl) | (apply PS.makeFunc <;> rfl) | (apply PS.fieldS <;> rfl)) : CXI P ops Q n e0 env L (⟨dst, op, ty, pos, aft, g⟩ :: rest) :=
  CXI.step hp.1 fun a w hf hs he => by
    refine ⟨fun _ _ => trivial, ?_⟩
    rw [show Fence.wide.round = none from rfl, Oper.semAt_none, hp.2 a w hf hs]
    exact h _ _ (hf.put dst v) hs he
theorem CXI.yield {y : Operand} {xs : List Operand} {tys : Array TypeId} {vs : List Value} {x : PH} {I : Nat → List Assn → Prop} {encs : List (List Value)} {k : Nat} {M L' N : List Assn}
    (hY : ∀ k v M y w, encs[k]? = some v → I k M → Le x y → Sep (M ++ [exact y]) w.ph → YieldAt Fence.wide 0 P l v.toArray w (CtrR y w (fun u M' => u = .bool true ∧ I (k + 1) M')))
    (hk : encs[k]? = some vs) (hI : I k M) (hsel : Sel L M L') (p : Pick (exact x) L' N)
    (h : ∀ M', I (k + 1) M' → CXI P ops Q n e0 (putE env dst (.bool true)) (M' ++ L') rest) (hg : gd ops n env g = some true := by rfl)
    (hy : ev n env y = some (.func (.yield l) #[] #[]) := by rfl) (hx : evs n env xs = some vs := by rfl) :
    CXI P ops Q n e0 env L (⟨dst, .call ⟨.value y, xs.toArray, tys⟩, ty, pos, aft, g⟩ :: rest) :=
  CXI.step hg fun a w hf hs he => by
    obtain ⟨z, hz, hl⟩ := (hsel.sep hs).rest
    obtain ⟨fn, tmps, assign, body, hrun, hR⟩ := hY k vs M z w hk hI (p.ok hl) hz
    refine ⟨fun _ _ => trivial, ?_⟩
    have hm := hf.evals hx
    have hv := hf.eval hy
    have e : (execOp a.eval ⟨dst, .call ⟨.value y, xs.toArray, tys⟩, ty, pos, aft, g⟩).run P w = .ok (.round l fn tmps assign body) w := by
      rw [← hrun, ← hm]
      simp [execOp, resolve, hv, Deferred.ofValue, invoke]
    rw [show Fence.wide.round = none from rfl, Oper.semAt_none, e]
    refine ⟨FW_depth none, hR.mono ?_⟩
    rintro e w' ⟨v, M', ⟨rfl, hI'⟩, rfl, hs', he'⟩
    exact h M' hI' _ _ (hf.put dst _) (hs'.unrest hl) (he.trans he')

/-! ### The statement -/
def putEs : Env → List Tmp → List Value → Env
  | env, t :: ts, v :: vs => putEs ((t, v) :: env) ts vs
  | env, _, _ => env
theorem Fr.puts : ∀ {ts : List Tmp} {vs : List Value} {env : Env} {tmps : Array Value}, Fr n env { tmps := tmps, defers := [] } →
    Fr n (putEs env ts vs) { tmps := (ts.zip vs).foldl (fun tmps (t, a) => tmps.setIfInBounds t a) tmps, defers := [] }
  | [], _, _, _, h => by cases ‹List Value› <;> exact h
  | t :: ts, [], _, _, h => h
  | t :: ts, v :: vs, env, tmps, h => by
    have := h.put (some t) v
    exact Fr.puts (ts := ts) (vs := vs) this
theorem yield_at {r : Loop} {ps : List Tmp} {vs : List Value} {w : World} {R : Ending → World → Prop} (hr : (ob l (.loop r)).ok w.ph) (hps : r.params = ps.toArray) (hl : vs.length = ps.length) (hf : Fr n env { tmps := r.tmps, defers := [] })
    (hs : Sep L w.ph) (h : CR P l r.assign (Begin P l r.body R) n w (putEs env ps vs) L) : YieldAt Fence.wide 0 P l vs.toArray w R := by
  refine ⟨_, _, _, _, run_yield (ob_ok.1 hr) (by simp [hps, hl]), roundIn_of_wpIn trivial ?_⟩
  have e : (r.params.zip vs.toArray).foldl (fun tmps (t, a) => tmps.setIfInBounds t a) r.tmps = (ps.zip vs).foldl (fun tmps (t, a) => tmps.setIfInBounds t a) r.tmps := by
    rw [hps]; simp
  have := h _ w (hf.puts (ts := ps) (vs := vs)) hs (Env0.refl w)
  rw [← e] at this
  exact this

theorem CC.range {gop : Operand} {ps : List Tmp} {assign body : Code} {f : FuncId} [F : HasFn P f] {caps : List Value} {H M0 L' : List Assn} {Rd : PH → Prop} {encs : List (List Value)}
    (It : Iter P f caps H Rd encs) (hg : ev n env gop = some (.func (.func f) #[] caps.toArray)) (I : Nat → List Assn → Prop) (h0 : I 0 M0) (hsel : Sel L (H ++ M0) L') (hRd : ∀ y, Sep L' y → Rd y) (hlen : ∀ v ∈ encs, v.length = ps.length)
    (hb : ∀ l r k v M x e1, encs[k]? = some v → I k M → r.state = .ready → r.pending = none → Sep L' x →
      CR P l assign (Begin P l body (CtrR x e1 (fun u M' => u = .bool true ∧ ∃ M1, M' = ob l (.loop r) :: M1 ∧ I (k + 1) M1))) n e1 (putEs env ps v) (ob l (.loop r) :: (M ++ [exact x])))
    (h : ∀ D M, I encs.length M → CQ (QD D (Q .normal)) n e0 env (ob D (.deferred (some [])) :: (M ++ L'))) : CC P (.rangeFunc gop ps.toArray assign body) Q n e0 env L := by
  intro a w hf hs he
  refine (wpIn_wide (n := 0)).1 (wpIn_rangeFunc fun fn _ => ?_)
  let D := w.heap.size
  let r : Loop := { state := .ready, pending := none, fn, tmps := a.tmps, params := ps.toArray, assign, body, defers := D }
  let w1 := (w.alloc (.deferred (some []))).alloc (.loop r)
  have hgv := hf.eval hg
  refine ⟨D + 1, [mark D], w1, ⟨.fn (.func f) caps.toArray, #[.func (.yield (D + 1)) #[] #[]]⟩, w1, f, (.func (.yield (D + 1)) #[] #[] :: caps).toArray, w1, run_enterLoop_outer fn a.tmps ps.toArray assign body, ?_, fun _ _ => trivial, ?_, FW_depth none, ?_⟩
  · simp [rangeCall, resolve, hgv, Deferred.ofValue, eval_const]
  · simp [invoke, F.call]
  · have s1 : Sep (ob (D + 1) (.loop r) :: ob D (.deferred (some [])) :: ((H ++ M0) ++ L')) w1.ph := by
      have := (Sep.allocO (Sep.allocO (hsel.sep hs) (.deferred (some []))) (.loop r))
      simpa using this
    have s2 : Sep ((H ++ (ob (D + 1) (.loop r) :: M0)) ++ (ob D (.deferred (some [])) :: L')) w1.ph := by
      have q1 := Sep.cons_mono (fun _ => (pick_mid (ob D (.deferred (some []))) (H ++ M0) L').back) s1
      rw [List.append_assoc] at q1
      have q2 := (pick_mid (ob (D + 1) (.loop r)) H (M0 ++ (ob D (.deferred (some [])) :: L'))).back q1
      rw [List.append_assoc]; exact q2
    obtain ⟨x, hx, hxl⟩ := s2.rest
    have hrd : Rd x := hRd x hxl.tail
    refine callsIn_wide.2 ((It (D + 1) x (fun k M => ∃ M1, M = ob (D + 1) (.loop r) :: M1 ∧ I k M1) hrd ?_ _ w1 ⟨M0, rfl, h0⟩ hx).mono ?_)
    · rintro k v _ y w2 hk ⟨M1, rfl, hI⟩ hle hs2
      have hy : Sep L' y := hxl.tail.mono hle
      exact yield_at (L := ob (D + 1) (.loop r) :: (M1 ++ [exact y])) hs2.head rfl (hlen v (List.mem_of_getElem? hk)) (by have := hf; exact ⟨rfl, this.size, this.get⟩) hs2 (hb (D + 1) r k v M1 y w2 hk hI rfl rfl hy)
    · rintro e w3 ⟨v, _, ⟨rfl, M1, rfl, hI⟩, rfl, hs3, he3⟩
      have hl3 := ob_ok.1 (hs3.head)
      refine ⟨none, _, run_endLoop hl3 (by simp [r]), ?_⟩
      have hs4 := (Sep.obj (Pick.head _) hs3 (.loop { r with state := .exhausted })).tail
      have hs5 := hs4.unrest hxl
      have hs6 : Sep (ob D (.deferred (some [])) :: (M1 ++ L')) (w3.putObj (D + 1) (.loop { r with state := .exhausted })).ph := by
        exact (pick_mid _ M1 L').sep hs5
      have := h D M1 hI a _ hf hs6 ((Env0.trans he (show Env0 w w1 from ⟨rfl, rfl, rfl⟩)).trans (he3.trans (env_put _ _ _)))
      rw [show [mark D] ++ a.defers = [mark D] by rw [hf.defers]; rfl]
      exact this
end
end Go.Cx
