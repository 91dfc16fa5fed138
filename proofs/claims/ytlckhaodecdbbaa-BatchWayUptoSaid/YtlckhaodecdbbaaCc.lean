/- Stepping: control, calls, contracts. No program in sight. -/
import Derived.Test.YtlckhaodecdbbaaCm
set_option linter.unusedSimpArgs false
set_option linter.unusedVariables false
namespace Go.Cx

/-- How a call ends: a value, and what is known of the memory then, x untouched. -/
def CtrR (x : PH) (w : World) (post : Value → List Assn → Prop) (e : Ending) (w' : World) : Prop :=
  ∃ v H, post v H ∧ e = .returned v ∧ Sep (H ++ [exact x]) w'.ph ∧ Env0 w w'

/-- A contract: of a memory part of which H tells, and of the rest of which pre holds. -/
def Ctr (P : Program) (f : FuncId) (args : List Value) (H : List Assn) (pre : PH → Prop) (post : Value → List Assn → Prop) : Prop :=
  ∀ x w, Sep (H ++ [exact x]) w.ph → pre x → Calls P f args.toArray w (CtrR x w post)

theorem Ctr.mono {P : Program} {f : FuncId} {args : List Value} {H : List Assn} {pre pre' : PH → Prop} {post post' : Value → List Assn → Prop}
    (s : Ctr P f args H pre post) (hp : ∀ x, pre' x → pre x) (hq : ∀ v M, post v M → post' v M) : Ctr P f args H pre' post' :=
  fun x w hs h => (s x w hs (hp x h)).mono fun e w' ⟨v, M, a, b, c, d⟩ => ⟨v, M, hq v M a, b, c, d⟩

def argE : List Value → Nat → Env
  | [], _ => []
  | v :: r, i => (i, v) :: argE r (i + 1)

theorem look_argE : ∀ (l : List Value) (i t : Nat) (v : Value), look (argE l i) t = some v → ∃ j, t = i + j ∧ l[j]? = some v
  | [], _, _, _, h => by cases h
  | u :: r, i, t, v, h => by
    simp only [argE, look] at h
    split at h
    · rename_i e; exact ⟨0, by omega, by simpa using h⟩
    · obtain ⟨j, e, hj⟩ := look_argE r (i + 1) t v h
      exact ⟨j + 1, by omega, by simpa using hj⟩

theorem Ctr.intro {P : Program} {f : FuncId} {fn : Func} {c : Code} {args : List Value} {H : List Assn} {pre : PH → Prop} {post : Value → List Assn → Prop} {n : Nat}
    (hf : P.funcs[f]? = some fn) (hb : fn.body = some c) (hn : fn.ntmps = n) (hl : Nat.ble args.length n = true)
    (h : ∀ x w, pre x → CC P c (bodyPost P fn (CtrR x w post)) n w (argE args 0) (H ++ [exact x])) : Ctr P f args H pre post := by
  intro x w hs hp
  have hl' := Nat.le_of_ble_eq_true hl
  refine calls_of_wp hf hb (h x w hp _ w ⟨rfl, ?_, fun t v ht hlk => ?_⟩ hs (Env0.refl w))
  · simp [hn]; omega
  · obtain ⟨j, e, hj⟩ := look_argE _ _ _ _ hlk
    have hjl : j < args.length := (List.getElem?_eq_some_iff.1 hj).1
    subst e
    simp only [Nat.zero_add, Array.getD_eq_getD_getElem?]
    rw [Array.getElem?_append_left (by simpa using hjl)]
    simp [hj]

def evs (n : Nat) (env : Env) : List Operand → Option (List Value)
  | [] => some []
  | x :: r => match ev n env x, evs n env r with
    | some v, some vs => some (v :: vs)
    | _, _ => none

theorem Fr.evals {n : Nat} {env : Env} {a : Act} (f : Fr n env a) : ∀ {xs : List Operand} {vs : List Value}, evs n env xs = some vs → xs.map a.eval = vs
  | [], vs, h => by simp [evs] at h; simp [h]
  | x :: r, vs, h => by
    simp only [evs] at h
    split at h
    · rename_i v us h1 h2
      cases h
      simp [f.eval h1, f.evals h2]
    · cases h

section
variable {P : Program} {ops : Array Oper} {Q : Exit → Act → World → Prop} {n : Nat} {e0 : World} {env : Env} {L : List Assn} {rest : List Oper}
variable {dst : Option Tmp} {ty : TypeId} {pos : String} {aft : Array Edge} {g : Option (Nat × Bool)} {op : Op}

/-- A call that is carried out by a contract. -/
theorem CX.callBy {c : Call} {f : FuncId} {args : List Value} {H L' : List Assn} {pre : PH → Prop} {post : Value → List Assn → Prop} (hg : gd ops n env g = some true)
    (hr : ∀ a w, Fr n env a → (execOp a.eval ⟨dst, .call c, ty, pos, aft, g⟩).run P w = .ok (.enter f args.toArray) w)
    (S : Ctr P f args H pre post) (hsel : Sel L H L') (hpre : ∀ x, Sep L' x → pre x)
    (h : ∀ v M, post v M → CX P ops Q n e0 (putE env dst v) (M ++ L') rest) : CX P ops Q n e0 env L (⟨dst, .call c, ty, pos, aft, g⟩ :: rest) := by
  refine CX.step hg fun a w hf hs he K hK => ?_
  unfold Oper.wp
  rw [hr a w hf]
  obtain ⟨x, hx, hl⟩ := (hsel.sep hs).rest
  show Calls P f args.toArray w _
  refine (S x w hx (hpre x hl)).mono ?_
  rintro e w' ⟨v, M, hp, rfl, hs', he'⟩
  exact hK _ _ (h v M hp _ _ (hf.put dst v) (hs'.unrest hl) (he.trans he'))

theorem CX.call {f : FuncId} [F : HasFn P f] {xs : List Operand} {tys : Array TypeId} {args : List Value} {H L' : List Assn} {pre : PH → Prop} {post : Value → List Assn → Prop} (hg : gd ops n env g = some true)
    (hx : evs n env xs = some args) (S : Ctr P f args H pre post) (hsel : Sel L H L') (hpre : ∀ x, Sep L' x → pre x)
    (h : ∀ v M, post v M → CX P ops Q n e0 (putE env dst v) (M ++ L') rest) : CX P ops Q n e0 env L (⟨dst, .call ⟨.value (.func f), xs.toArray, tys⟩, ty, pos, aft, g⟩ :: rest) :=
  CX.callBy hg (fun a w hf => by
    have := hf.evals hx
    simp [execOp, resolve, Act.eval, Deferred.ofValue, invoke, F.call]
    rw [← this]) S hsel hpre h

/-- A call of a function value. -/
theorem CX.callV {f : FuncId} [F : HasFn P f] {y : Operand} {first cap : Array Value} {xs : List Operand} {tys : Array TypeId} {args : List Value} {H L' : List Assn} {pre : PH → Prop} {post : Value → List Assn → Prop} (hg : gd ops n env g = some true)
    (hy : ev n env y = some (.func (.func f) first cap)) (hx : evs n env xs = some args) (S : Ctr P f (first.toList ++ args ++ cap.toList) H pre post) (hsel : Sel L H L') (hpre : ∀ x, Sep L' x → pre x)
    (h : ∀ v M, post v M → CX P ops Q n e0 (putE env dst v) (M ++ L') rest) : CX P ops Q n e0 env L (⟨dst, .call ⟨.value y, xs.toArray, tys⟩, ty, pos, aft, g⟩ :: rest) :=
  CX.callBy hg (fun a w hf => by
    have hm := hf.evals hx
    have hv := hf.eval hy
    simp [execOp, resolve, hv, Deferred.ofValue, invoke, F.call]
    rw [← hm]) S hsel hpre h

theorem PS.makeFunc {fn : Fn} {xs ys : List Operand} {fs cs : List Value} (hg : gd ops n env g = some true) (hx : evs n env xs = some fs) (hy : evs n env ys = some cs) :
    PS P ops n env L ⟨dst, .makeFunc fn xs.toArray ys.toArray, ty, pos, aft, g⟩ (.func fn fs.toArray cs.toArray) :=
  ⟨hg, (fun a w hf _ => by
    have h1 := hf.evals hx
    have h2 := hf.evals hy
    simp [execOp, Instr.makeFunc]
    rw [← h1, ← h2]; simp)⟩
/-! ### Code -/
theorem CC.seq {x y : Code} (h : CC P x (Exit.then (y.wp P Q) Q) n e0 env L) : CC P (.seq x y) Q n e0 env L := fun a w hf hs he => wp_seq (h a w hf hs he)
theorem CC.block {id : Nat} {c : Code} (h : CC P c (Exit.inBlock id Q) n e0 env L) : CC P (.block id c) Q n e0 env L := fun a w hf hs he => wp_block (h a w hf hs he)
theorem CC.region {id : Nat} {l : List Oper} (h : CX P l.toArray Q n e0 env L l) : CC P (.region id l.toArray false) Q n e0 env L := fun a w hf hs he => wp_region_lit (h a w hf hs he)
theorem CC.skip (h : CQ (Q .normal) n e0 env L) : CC P .skip Q n e0 env L := fun a w hf hs he => wp_skip (h a w hf hs he)
theorem CC.ret (h : CQ (Q .ret) n e0 env L) : CC P .ret Q n e0 env L := fun a w hf hs he => wp_ret (h a w hf hs he)
theorem CC.exit {id : Nat} (h : CQ (Q (.exit id)) n e0 env L) : CC P (.exit id) Q n e0 env L := fun a w hf hs he => wp_exit (h a w hf hs he)
theorem CC.condT {c : Operand} {x y : Code} (hc : ev n env c = some (.bool true)) (h : CC P x Q n e0 env L) : CC P (.cond c x y) Q n e0 env L := fun a w hf hs he => wp_cond_true (hf.eval hc) (h a w hf hs he)
theorem CC.condF {c : Operand} {x y : Code} (hc : ev n env c = some (.bool false)) (h : CC P y Q n e0 env L) : CC P (.cond c x y) Q n e0 env L := fun a w hf hs he => wp_cond_false (hf.eval hc) (h a w hf hs he)
theorem CC.condDT {c : Operand} {x y : Code} {p : Prop} {_ : Decidable p} (hc : ev n env c = some (.bool (decide p))) (hp : p) (h : CC P x Q n e0 env L) : CC P (.cond c x y) Q n e0 env L :=
  CC.condT (by rw [hc]; simp [hp]) h
theorem CC.condDF {c : Operand} {x y : Code} {p : Prop} {_ : Decidable p} (hc : ev n env c = some (.bool (decide p))) (hp : ¬ p) (h : CC P y Q n e0 env L) : CC P (.cond c x y) Q n e0 env L :=
  CC.condF (by rw [hc]; simp [hp]) h
theorem CC.condD {c : Operand} {x y : Code} {p : Prop} {_ : Decidable p} (hc : ev n env c = some (.bool (decide p))) (ht : p → CC P x Q n e0 env L) (hf : ¬ p → CC P y Q n e0 env L) : CC P (.cond c x y) Q n e0 env L := by
  by_cases hp : p
  · exact CC.condDT hc hp (ht hp)
  · exact CC.condDF hc hp (hf hp)
theorem CC.condB {c : Operand} {x y : Code} {b : Bool} (hc : ev n env c = some (.bool b)) (ht : b = true → CC P x Q n e0 env L) (hf : b = false → CC P y Q n e0 env L) : CC P (.cond c x y) Q n e0 env L := by
  cases b
  · exact CC.condF hc (hf rfl)
  · exact CC.condT hc (ht rfl)

/-- What is known is weakened: temporaries are let go, parts of the memory too. -/
theorem CC.weak {c : Code} {env' : Env} {L' M : List Assn} (hs : Sub env env') (hl : Sel L L' M) (h : CC P c Q n e0 env' L') : CC P c Q n e0 env L :=
  fun a w hf hsep he => h a w (hf.sub hs) (hl.sep hsep).left he
theorem CX.weak {env' : Env} {L' M : List Assn} (hs : Sub env env') (hl : Sel L L' M) (h : CX P ops Q n e0 env' L' rest) : CX P ops Q n e0 env L rest :=
  fun a w hf hsep he => h a w (hf.sub hs) (hl.sep hsep).left he
theorem CC.mem {c : Code} {L' : List Assn} (hl : ∀ h, Sep L h → Sep L' h) (h : CC P c Q n e0 env L') : CC P c Q n e0 env L :=
  fun a w hf hsep he => h a w hf (hl _ hsep) he
theorem CX.mem {L' : List Assn} (hl : ∀ h, Sep L h → Sep L' h) (h : CX P ops Q n e0 env L' rest) : CX P ops Q n e0 env L rest :=
  fun a w hf hsep he => h a w hf (hl _ hsep) he
/-- Facts that the memory gives. -/
theorem CC.fact {c : Code} {p : Prop} (hp : ∀ h, Sep L h → p) (h : p → CC P c Q n e0 env L) : CC P c Q n e0 env L :=
  fun a w hf hs he => h (hp _ hs) a w hf hs he
theorem CX.fact {p : Prop} (hp : ∀ h, Sep L h → p) (h : p → CX P ops Q n e0 env L rest) : CX P ops Q n e0 env L rest :=
  fun a w hf hs he => h (hp _ hs) a w hf hs he
/-- A state that a loop comes to. -/
def InS {X : Type} (n : Nat) (e0 : World) (E : X → Env) (M : X → List Assn) (good : X → Prop) (a : Act) (w : World) : Prop :=
  ∃ x, good x ∧ Fr n (E x) a ∧ Sep (M x) w.ph ∧ Env0 e0 w

theorem CC.loop {c : Code} {X : Type} (E : X → Env) (M : X → List Assn) (good : X → Prop) (μ : X → Nat) (x0 : X) (h0 : good x0) (hs : Sub env (E x0)) {R : List Assn} (hl : Sel L (M x0) R)
    (round : ∀ x, good x → CC P c (Exit.then (fun a w => ∃ y, (good y ∧ μ y < μ x) ∧ Fr n (E y) a ∧ Sep (M y) w.ph ∧ Env0 e0 w) Q) n e0 (E x) (M x)) : CC P (.loop c) Q n e0 env L := by
  intro a w hf hsep he
  have key : ∀ m, ∀ x, μ x = m → ∀ a w, good x → Fr n (E x) a → Sep (M x) w.ph → Env0 e0 w → (Code.loop c).wp P Q a w := by
    intro m x hm a w hg hf hs he b k cs
    have inner : ∀ m x a w, μ x = m → good x → Fr n (E x) a → Sep (M x) w.ph → Env0 e0 w →
        ∃ e a' w', Q e a' w' ∧ Arrives P (lone (b.at a (.code c :: .inLoop c :: k)) cs w) b k cs e a' w' := by
      intro m
      induction m using Nat.strongRecOn with
      | _ m ih =>
        intro x a w hm hg hf hs he
        obtain ⟨e, a₁, w₁, hq, harr⟩ := round x hg a w hf hs he b (.inLoop c :: k) cs
        cases e with
        | normal =>
          obtain ⟨y, ⟨hy, hlt⟩, hf', hs', he'⟩ := hq
          obtain ⟨e₂, a₂, w₂, hq₂, harr₂⟩ := ih (μ y) (hm ▸ hlt) y a₁ w₁ rfl hy hf' hs' he'
          exact ⟨e₂, a₂, w₂, hq₂, .of_steps (Steps.trans harr (.one step_inLoop)) harr₂⟩
        | exit id => exact ⟨_, a₁, w₁, hq, .pass (x := .inLoop c) rfl (fun _ _ => .inl (by simp)) harr⟩
        | goto l => exact ⟨_, a₁, w₁, hq, .pass (x := .inLoop c) rfl (fun _ _ => .inl (by simp)) harr⟩
        | ret => exact ⟨_, a₁, w₁, hq, .pass (x := .inLoop c) rfl (fun _ _ => .inl (by simp)) harr⟩
        | panic ch => exact ⟨_, a₁, w₁, hq, .pass (x := .inLoop c) rfl (fun _ _ => .inl (by simp)) harr⟩
        | outgrown => exact ⟨_, a₁, w₁, hq, .pass (x := .inLoop c) rfl (fun _ _ => .inl (by simp)) harr⟩
    obtain ⟨e, a', w', hq, harr⟩ := inner _ x a w rfl hg hf hs he
    exact ⟨e, a', w', hq, .of_steps (.one step_loop) harr⟩
  exact key _ x0 rfl a w h0 (hf.sub hs) (hl.sep hsep).left he

/-- The end of a round. -/
theorem CQ.round {X : Type} {E : X → Env} {M : X → List Assn} {good : X → Prop} {μ : X → Nat} {x : X} {Q : Exit → Act → World → Prop} (y : X) (hg : good y) (hμ : μ y < μ x) (hs : Sub env (E y)) {R : List Assn} (hl : Sel L (M y) R) :
    CQ (Exit.then (fun a w => ∃ y, (good y ∧ μ y < μ x) ∧ Fr n (E y) a ∧ Sep (M y) w.ph ∧ Env0 e0 w) Q .normal) n e0 env L :=
  fun a w hf hsep he => ⟨y, ⟨hg, hμ⟩, hf.sub hs, (hl.sep hsep).left, he⟩

theorem CQ.thenN {y : Code} {Q' : Exit → Act → World → Prop} (h : CC P y Q n e0 env L) : CQ (Exit.then (y.wp P Q) Q' .normal) n e0 env L := h
theorem CQ.thenR {K : Act → World → Prop} (h : CQ (Q .ret) n e0 env L) : CQ (Exit.then K Q .ret) n e0 env L := h
theorem CQ.thenX {K : Act → World → Prop} {id : Nat} (h : CQ (Q (.exit id)) n e0 env L) : CQ (Exit.then K Q (.exit id)) n e0 env L := h
theorem CQ.blockN {id : Nat} (h : CQ (Q .normal) n e0 env L) : CQ (Exit.inBlock id Q .normal) n e0 env L := h
theorem CQ.blockR {id : Nat} (h : CQ (Q .ret) n e0 env L) : CQ (Exit.inBlock id Q .ret) n e0 env L := h
theorem CQ.blockX {id : Nat} (h : CQ (Q .normal) n e0 env L) : CQ (Exit.inBlock id Q (.exit id)) n e0 env L := fun a w hf hs he => by
  simp only [Exit.inBlock, if_true]; exact h a w hf hs he
theorem CQ.blockY {id id' : Nat} (hne : Nat.beq id' id = false) (h : CQ (Q (.exit id')) n e0 env L) : CQ (Exit.inBlock id Q (.exit id')) n e0 env L := fun a w hf hs he => by
  have : id' ≠ id := fun e => by subst e; simp at hne
  simp only [Exit.inBlock, if_neg this]; exact h a w hf hs he

/-! ### The end -/
variable {fn : Func} {x : PH} {post : Value → List Assn → Prop}
/-- What a result variable holds. -/
inductive RV (P : Program) (n : Nat) (env : Env) (L : List Assn) : ResultVar → Value → Prop
  | tmp {t : Tmp} {v : Value} (h : ev n env (.tmp t) = some v) : RV P n env L (.tmp t) v
  | cell {t : Tmp} {ty b o : Nat} {v : Value} (S : TyS P ty) (h : ev n env (.tmp t) = some (.pointer (some ⟨b, o, none⟩))) (hc : CellAt L b o v) : RV P n env L (.cell t ty) v
  | cells {t : Tmp} {ty b o sz : Nat} {vs : List Value} (G : TyG P ty sz) (h : ev n env (.tmp t) = some (.pointer (some ⟨b, o, none⟩))) (hc : CellsAt L b o vs) (hl : vs.length = sz) : RV P n env L (.cell t ty) (.agg vs.toArray)

def RVr (P : Program) (a : Act) (w : World) (v : Value) : ResultVar → Prop
  | .tmp t => a.tmps.getD t undef = v
  | .cell p ty => ∃ ad, a.tmps.getD p undef = .pointer (some ad) ∧ (loadVar ty ad).run P w = .ok v w
theorem RV.run {rv : ResultVar} {v : Value} (r : RV P n env L rv v) {a : Act} {w : World} (hf : Fr n env a) (hs : Sep L w.ph) : RVr P a w v rv := by
  cases r with
  | tmp h => exact hf.eval h
  | cell S h hc =>
    obtain ⟨cs, bt, fr, e, hv⟩ := hc _ hs
    exact ⟨_, hf.eval h, run_loadVarS (P := P) (cell_ph e hv)⟩
  | cells G h hc hl =>
    obtain ⟨cs, bt, fr, e, hv⟩ := hc _ hs
    exact ⟨_, hf.eval h, run_loadVarG (P := P) hl (fun j v hj => cell_ph e (hv j v hj))⟩
theorem fin0 {a : Act} (hr : fn.results = #[]) (w : World) : (results fn a.tmps).run P w = .ok (.tuple #[]) w := results_none hr _ _ _
theorem fin1 {a : Act} {w : World} {r : ResultVar} {v : Value} (hr : fn.results = #[r]) (h : RV P n env L r v) (hf : Fr n env a) (hs : Sep L w.ph) : (results fn a.tmps).run P w = .ok v w := by
  have h1 := h.run hf hs
  cases r <;> simp only [RVr, Array.getD_eq_getD_getElem?] at h1
  · simp [results, hr, h1]
  · obtain ⟨ad, e, l⟩ := h1; simp [results, hr, e, l, asAddr]
theorem fin2 {a : Act} {w : World} {r s : ResultVar} {v u : Value} (hr : fn.results = #[r, s]) (h : RV P n env L r v) (k : RV P n env L s u) (hf : Fr n env a) (hs : Sep L w.ph) : (results fn a.tmps).run P w = .ok (.tuple #[v, u]) w := by
  have h1 := h.run hf hs
  have h2 := k.run hf hs
  cases r <;> cases s <;> simp only [RVr, Array.getD_eq_getD_getElem?] at h1 h2
  · simp [results, hr, h1, h2]
  · obtain ⟨ad, e, l⟩ := h2; simp [results, hr, h1, e, l, asAddr]
  · obtain ⟨ad, e, l⟩ := h1; simp [results, hr, h2, e, l, asAddr]
  · obtain ⟨ad, e, l⟩ := h1; obtain ⟨ad', e', l'⟩ := h2; simp [results, hr, e', l', e, l, asAddr]
theorem fin3 {a : Act} {w : World} {r s t : ResultVar} {v u z : Value} (hr : fn.results = #[r, s, t]) (h : RV P n env L r v) (k : RV P n env L s u) (l : RV P n env L t z) (hf : Fr n env a) (hs : Sep L w.ph) : (results fn a.tmps).run P w = .ok (.tuple #[v, u, z]) w := by
  have h1 := h.run hf hs
  have h2 := k.run hf hs
  have h3 := l.run hf hs
  cases r <;> cases s <;> cases t <;> simp only [RVr, Array.getD_eq_getD_getElem?] at h1 h2 h3
  · simp [results, hr, h1, h2, h3]
  · obtain ⟨ad, e, l⟩ := h3; simp [results, hr, h1, h2, e, l, asAddr]
  · obtain ⟨ad, e, l⟩ := h2; simp [results, hr, h1, h3, e, l, asAddr]
  · obtain ⟨ad, e, l⟩ := h2; obtain ⟨ad', e', l'⟩ := h3; simp [results, hr, h1, e', l', e, l, asAddr]
  · obtain ⟨ad, e, l⟩ := h1; simp [results, hr, h2, h3, e, l, asAddr]
  · obtain ⟨ad, e, l⟩ := h1; obtain ⟨ad', e', l'⟩ := h3; simp [results, hr, h2, e', l', e, l, asAddr]
  · obtain ⟨ad, e, l⟩ := h1; obtain ⟨ad', e', l'⟩ := h2; simp [results, hr, h3, e', l', e, l, asAddr]
  · obtain ⟨ad, e, l⟩ := h1; obtain ⟨ad', e', l'⟩ := h2; obtain ⟨ad2, e2, l2⟩ := h3; simp [results, hr, e', l', e, l, e2, l2, asAddr]
theorem CQ.end0 {M R : List Assn} (hr : fn.results = #[]) (hp : post (.tuple #[]) M) (hl : Sel L (M ++ [exact x]) R) : CQ (bodyPost P fn (CtrR x e0 post) .normal) n e0 env L :=
  fun a w hf hs he => ⟨hf.defers, _, fin0 hr w, _, M, hp, rfl, (hl.sep hs).left, he⟩
theorem CQ.end0' {M R : List Assn} (hr : fn.results = #[]) (hp : post (.tuple #[]) M) (hl : Sel L (M ++ [exact x]) R) : CQ (bodyPost P fn (CtrR x e0 post) .ret) n e0 env L :=
  fun a w hf hs he => ⟨hf.defers, _, fin0 hr w, _, M, hp, rfl, (hl.sep hs).left, he⟩
theorem CQ.end1 {M R : List Assn} {r : ResultVar} {v : Value} (hr : fn.results = #[r]) (h : RV P n env L r v) (hp : post v M) (hl : Sel L (M ++ [exact x]) R) : CQ (bodyPost P fn (CtrR x e0 post) .ret) n e0 env L :=
  fun a w hf hs he => ⟨hf.defers, _, fin1 hr h hf hs, _, M, hp, rfl, (hl.sep hs).left, he⟩
theorem CQ.end2 {M R : List Assn} {r s : ResultVar} {v u : Value} (hr : fn.results = #[r, s]) (h : RV P n env L r v) (k : RV P n env L s u) (hp : post (.tuple #[v, u]) M) (hl : Sel L (M ++ [exact x]) R) : CQ (bodyPost P fn (CtrR x e0 post) .ret) n e0 env L :=
  fun a w hf hs he => ⟨hf.defers, _, fin2 hr h k hf hs, _, M, hp, rfl, (hl.sep hs).left, he⟩
theorem CQ.end3 {M R : List Assn} {r s t : ResultVar} {v u z : Value} (hr : fn.results = #[r, s, t]) (h : RV P n env L r v) (k : RV P n env L s u) (l : RV P n env L t z) (hp : post (.tuple #[v, u, z]) M) (hl : Sel L (M ++ [exact x]) R) : CQ (bodyPost P fn (CtrR x e0 post) .ret) n e0 env L :=
  fun a w hf hs he => ⟨hf.defers, _, fin3 hr h k l hf hs, _, M, hp, rfl, (hl.sep hs).left, he⟩
end
end Go.Cx
