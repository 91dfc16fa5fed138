/- Two lists gone through at once (batch.merged), in the program. Printed by mg.py (wip). -/
import Derived.Test.YtlckhaodecdbbaaBx
set_option linter.unusedVariables false
set_option linter.unusedSimpArgs false
namespace Go.Cx
/-- Parts of the memory as one. -/
@[irreducible] def many (M : List Assn) : Assn where
  ok h := Sep M h
  mono := fun _ _ l s => s.mono l
theorem many_ok {M : List Assn} {h : PH} : (many M).ok h ↔ Sep M h := by
  unfold many; exact Iff.rfl
theorem Sep.many_in {M L : List Assn} {h : PH} (s : Sep (M ++ L) h) : Sep (many M :: L) h := by
  obtain ⟨S, a, b⟩ := s.append
  exact ⟨S, many_ok.2 a, b⟩
theorem Sep.many_out {M L : List Assn} {h : PH} (s : Sep (many M :: L) h) : Sep (M ++ L) h := by
  obtain ⟨S, a, b⟩ := s
  exact Sep.join S (many_ok.1 a) b
section
variable {P : Program} {ops : Array Oper} {Q : Exit → Act → World → Prop} {n l : Nat} {e0 : World} {env : Env} {L : List Assn} {rest : List Oper}
variable {dst : Option Tmp} {ty : TypeId} {pos : String} {aft : Array Edge} {g : Option (Nat × Bool)} {op : Op}
theorem CXI.yieldM {y : Operand} {xs : List Operand} {tys : Array TypeId} {vs : List Value} {x : PH} {I : Nat → List Assn → Prop} {encs : List (List Value)} {k : Nat} {M L' N : List Assn}
    (hY : ∀ k v M y w, encs[k]? = some v → I k M → Le x y → Sep (M ++ [exact y]) w.ph → YieldAt Fence.wide 0 P l v.toArray w (CtrR y w (fun u M' => u = .bool true ∧ I (k + 1) M')))
    (hk : encs[k]? = some vs) (hI : I k M)
    (h : ∀ M', I (k + 1) M' → CXI P ops Q n e0 (putE env dst (.bool true)) (many M' :: L') rest) (p : Pick (many M) L L' := by repeat (first | exact .head _ | apply Pick.tail | apply Upd.tail)) (q : Pick (exact x) L' N := by repeat (first | exact .head _ | apply Pick.tail | apply Upd.tail)) (hg : gd ops n env g = some true := by rfl)
    (hy : ev n env y = some (.func (.yield l) #[] #[]) := by rfl) (hx : evs n env xs = some vs := by rfl) :
    CXI P ops Q n e0 env L (⟨dst, .call ⟨.value y, xs.toArray, tys⟩, ty, pos, aft, g⟩ :: rest) :=
  CXI.step hg fun a w hf hs he => by
    obtain ⟨z, hz, hl⟩ := ((p.sep hs).many_out).rest
    obtain ⟨fn, tmps, assign, body, hrun, hR⟩ := hY k vs M z w hk hI (q.ok hl) hz
    refine ⟨fun _ _ => trivial, ?_⟩
    have hm := hf.evals hx
    have hv := hf.eval hy
    have e : (execOp a.eval ⟨dst, .call ⟨.value y, xs.toArray, tys⟩, ty, pos, aft, g⟩).run P w = .ok (.round l fn tmps assign body) w := by
      rw [← hrun, ← hm]
      simp [execOp, resolve, hv, Deferred.ofValue, invoke]
    rw [show Fence.wide.round = none from rfl, Oper.semAt_none, e]
    refine ⟨FW_depth none, hR.mono ?_⟩
    rintro e w' ⟨v, M', ⟨rfl, hI'⟩, rfl, hs', he'⟩
    exact h M' hI' _ _ (hf.put dst _) ((hs'.unrest hl).many_in) (he.trans he')
theorem Iter.intro {f : FuncId} {fn : Func} {c : Code} {caps : List Value} {H : List Assn} {Rd : PH → Prop} {encs : List (List Value)}
    (hf : P.funcs[f]? = some fn) (hb : fn.body = some c) (hn : fn.ntmps = n) (hl : Nat.ble (caps.length + 1) n = true)
    (h : ∀ (l : Nat) (x : PH) (I : Nat → List Assn → Prop) (w : World), Rd x →
      (∀ k v M y w, encs[k]? = some v → I k M → Le x y → Sep (M ++ [exact y]) w.ph → YieldAt Fence.wide 0 P l v.toArray w (CtrR y w (fun u M' => u = .bool true ∧ I (k + 1) M'))) →
      ∀ M0, I 0 M0 → CC P c (bodyPost P fn (CtrR x w (fun v M => v = .tuple #[] ∧ I encs.length M))) n w (argE (.func (.yield l) #[] #[] :: caps) 0) (many M0 :: (H ++ [exact x]))) : Iter P f caps H Rd encs := by
  intro l x I hrd hY M0 w hI hs
  have hl' := Nat.le_of_ble_eq_true hl
  refine calls_of_wp hf hb (h l x I w hrd hY M0 hI _ w ⟨rfl, ?_, fun t v ht hlk => ?_⟩ ?_ (Env0.refl w))
  · simp [hn]; omega
  · obtain ⟨j, e, hj⟩ := look_argE _ _ _ _ hlk
    have hjl : j < (Value.func (.yield l) #[] #[] :: caps).length := (List.getElem?_eq_some_iff.1 hj).1
    subst e
    simp only [Nat.zero_add, Array.getD_eq_getD_getElem?]
    rw [Array.getElem?_append_left (by simpa using hjl)]
    simp [hj]
  · rw [List.append_assoc] at hs
    have h1 : Sep (many M0 :: (H ++ [exact x])) w.ph := by
      obtain ⟨S, a, b⟩ := hs.append
      have e3 : Sep (many M0 :: [exact x]) (w.ph.less S) := b.many_in
      have e4 : Sep (H ++ (many M0 :: [exact x])) w.ph := Sep.join S a e3
      exact (pick_mid (many M0) H [exact x]).sep e4
    exact h1
theorem CQ.endIter {fn : Func} {x : PH} {I : Nat → List Assn → Prop} {k m : Nat} {M L' N : List Assn} (hr : fn.results = #[]) (hI : I k M) (e : k = m) (p : Pick (many M) L L' := by repeat (first | exact .head _ | apply Pick.tail | apply Upd.tail)) (q : Pick (exact x) L' N := by repeat (first | exact .head _ | apply Pick.tail | apply Upd.tail)) :
    CQ (bodyPost P fn (CtrR x e0 (fun v M => v = .tuple #[] ∧ I m M)) .normal) n e0 env L := fun a w hf hs he => by
  subst e
  have s2 : Sep (many M :: exact x :: N) w.ph := Sep.cons_mono (fun _ => q.sep) (p.sep hs)
  have s3 : Sep ([many M, exact x] ++ N) w.ph := s2
  exact ⟨hf.defers, _, fin0 hr w, _, M, ⟨rfl, hI⟩, rfl, (s3.left).many_out, he⟩
end
/-! ### What is handed out -/
def mrg {α β : Type} (ka : α → Blk) (kb : β → Blk) : Nat → List α → Nat → List β → List (Option (Nat × α) × Option (Nat × β))
  | _, [], _, [] => []
  | i, x :: t, j, [] => (some (i, x), none) :: mrg ka kb (i + 1) t j []
  | i, [], j, y :: l => (none, some (j, y)) :: mrg ka kb i [] (j + 1) l
  | i, x :: t, j, y :: l =>
    if klt (ka x) (kb y) then (some (i, x), none) :: mrg ka kb (i + 1) t j (y :: l)
    else if ka x = kb y then (some (i, x), some (j, y)) :: mrg ka kb (i + 1) t (j + 1) l
    else (none, some (j, y)) :: mrg ka kb i (x :: t) (j + 1) l
termination_by _ t _ l => t.length + l.length
def atP (a : Option Addr) (k : Nat) : Option Addr := a.map (·.add k)
def encM {α β : Type} (a b : Option Addr) (sa sb : Nat) (p : Option (Nat × α) × Option (Nat × β)) : List Value :=
  [.pointer (p.1.bind fun q => atP a (q.1 * sa)), .pointer (p.2.bind fun q => atP b (q.1 * sb))]
theorem atP_some (g o k : Nat) : atP (some ⟨g, o, none⟩) k = some ⟨g, o + k, none⟩ := by simp [atP, addr_add]
theorem drop_cons {α : Type} {L T : List α} {h : α} {k : Nat} (e : h :: T = L.drop k) : k < L.length ∧ L[k]? = some h ∧ T = L.drop (k + 1) := by
  have h1 : k < L.length := by
    rcases Nat.lt_or_ge k L.length with h1 | h1
    · exact h1
    · rw [List.drop_of_length_le h1] at e; cases e
  rw [List.drop_eq_getElem_cons h1] at e
  simp only [List.cons.injEq] at e
  exact ⟨h1, by rw [List.getElem?_eq_getElem h1, ← e.1], e.2⟩
theorem rwAt.cells0 {L L' : List Assn} {x : PH} {g off i : Nat} {l : List RwV} (h : rwAt (some ⟨g, off, none⟩) l x) (p : Pick (exact x) L L') (hi : i < l.length) : CellsAt L g (off + i * 2 + 0 * 2) (l[i]).cells := h.cells p hi
theorem chAt.cells0 {L L' : List Assn} {x : PH} {g off i : Nat} {l : List ChV} (h : chAt (some ⟨g, off, none⟩) l x) (p : Pick (exact x) L L') (hi : i < l.length) : CellsAt L g (off + i * 3 + 0 * 3) (l[i]).cells := h.cells p hi
def cmpZ (a b : Blk) : Int := if klt a b then -1 else if a = b then 0 else 1
end Go.Cx
namespace Go.Proofs.Ytlckhaodecdbbaa
open Go.Cx
attribute [local irreducible] Go.Cx.CX Go.Cx.CC Go.Cx.CQ Go.Cx.PS Go.Cx.Ctr Go.Cx.CH
set_option maxRecDepth 10000
theorem nan_c (a : Blk) : Ctr Try.prog 158 [sv a] [] (fun _ => True) (fun v M => v = .bool false ∧ M = []) := by
  refine Ctr.intro Try.func158 rfl Try.ntmps158 rfl fun x w hp => ?_
  repeat (first | refine CX.psA ?_ | refine CX.nil ?_ | refine CQ.thenN ?_ | refine CQ.thenR ?_ | refine CQ.thenX ?_ | refine CQ.blockN ?_ | refine CQ.blockR ?_ | refine CQ.blockX ?_ | refine CQ.blockYA ?_ | refine CC.seq ?_ | refine CC.block ?_ | refine CC.region ?_ | refine CC.skip ?_ | refine CC.ret ?_ | refine CC.exit ?_ | refine CC.condTA ?_ | refine CC.condFA ?_ | refine CC.condDTA ?_ | refine CC.condDFA ?_ | refine CX.storeA ?_ | refine CX.skipA ?_)
  refine CX.ps ((PS.neqStr (a := a) (b := a) rfl rfl rfl).toF (fun h => h rfl)) ?_
  repeat (first | refine CX.psA ?_ | refine CX.nil ?_ | refine CQ.thenN ?_ | refine CQ.thenR ?_ | refine CQ.thenX ?_ | refine CQ.blockN ?_ | refine CQ.blockR ?_ | refine CQ.blockX ?_ | refine CQ.blockYA ?_ | refine CC.seq ?_ | refine CC.block ?_ | refine CC.region ?_ | refine CC.skip ?_ | refine CC.ret ?_ | refine CC.exit ?_ | refine CC.condTA ?_ | refine CC.condFA ?_ | refine CC.condDTA ?_ | refine CC.condDFA ?_ | refine CX.storeA ?_ | refine CX.skipA ?_)
  ((apply CQ.end1; (· rfl); (· exact .tmp rfl)); (· exact ⟨rfl, rfl⟩); (· repeat (first | exact Sel.nil _ | (apply Sel.cons; (· repeat (first | exact .head _ | apply Pick.tail | apply Upd.tail))))))
theorem cmp_c (a b : Blk) : Ctr Try.prog 134 [sv a, sv b] [] (fun _ => True) (fun v M => v = .int .i64 (cmpZ a b) ∧ M = []) := by
  refine Ctr.intro Try.func134 rfl Try.ntmps134 rfl fun x w hp => ?_
  repeat (first | refine CX.psA ?_ | refine CX.nil ?_ | refine CQ.thenN ?_ | refine CQ.thenR ?_ | refine CQ.thenX ?_ | refine CQ.blockN ?_ | refine CQ.blockR ?_ | refine CQ.blockX ?_ | refine CQ.blockYA ?_ | refine CC.seq ?_ | refine CC.block ?_ | refine CC.region ?_ | refine CC.skip ?_ | refine CC.ret ?_ | refine CC.exit ?_ | refine CC.condTA ?_ | refine CC.condFA ?_ | refine CC.condDTA ?_ | refine CC.condDFA ?_ | refine CX.storeA ?_ | refine CX.skipA ?_)
  refine CX.callA (nan_c a) ?_
  rintro _ _ ⟨rfl, rfl⟩
  repeat (first | refine CX.psA ?_ | refine CX.nil ?_ | refine CQ.thenN ?_ | refine CQ.thenR ?_ | refine CQ.thenX ?_ | refine CQ.blockN ?_ | refine CQ.blockR ?_ | refine CQ.blockX ?_ | refine CQ.blockYA ?_ | refine CC.seq ?_ | refine CC.block ?_ | refine CC.region ?_ | refine CC.skip ?_ | refine CC.ret ?_ | refine CC.exit ?_ | refine CC.condTA ?_ | refine CC.condFA ?_ | refine CC.condDTA ?_ | refine CC.condDFA ?_ | refine CX.storeA ?_ | refine CX.skipA ?_)
  refine CX.callA (nan_c b) ?_
  rintro _ _ ⟨rfl, rfl⟩
  by_cases h1 : klt a b = true
  · rw [show cmpZ a b = -1 by unfold cmpZ; rw [if_pos h1]]
    repeat (first | refine CX.psA ?_ | refine CX.nil ?_ | refine CQ.thenN ?_ | refine CQ.thenR ?_ | refine CQ.thenX ?_ | refine CQ.blockN ?_ | refine CQ.blockR ?_ | refine CQ.blockX ?_ | refine CQ.blockYA ?_ | refine CC.seq ?_ | refine CC.block ?_ | refine CC.region ?_ | refine CC.skip ?_ | refine CC.ret ?_ | refine CC.exit ?_ | refine CC.condTA ?_ | refine CC.condFA ?_ | refine CC.condDTA ?_ | refine CC.condDFA ?_ | refine CX.storeA ?_ | refine CX.skipA ?_)
    refine CX.ps (PS.lssStr (a := a) (b := b) true h1) ?_
    repeat (first | refine CX.psA ?_ | refine CX.nil ?_ | refine CQ.thenN ?_ | refine CQ.thenR ?_ | refine CQ.thenX ?_ | refine CQ.blockN ?_ | refine CQ.blockR ?_ | refine CQ.blockX ?_ | refine CQ.blockYA ?_ | refine CC.seq ?_ | refine CC.block ?_ | refine CC.region ?_ | refine CC.skip ?_ | refine CC.ret ?_ | refine CC.exit ?_ | refine CC.condTA ?_ | refine CC.condFA ?_ | refine CC.condDTA ?_ | refine CC.condDFA ?_ | refine CX.storeA ?_ | refine CX.skipA ?_)
    ((apply CQ.end1; (· rfl); (· exact .tmp rfl)); (· exact ⟨rfl, rfl⟩); (· repeat (first | exact Sel.nil _ | (apply Sel.cons; (· repeat (first | exact .head _ | apply Pick.tail | apply Upd.tail))))))
  · have h1' : klt a b = false := by simpa using h1
    by_cases h2 : a = b
    · rw [show cmpZ a b = 0 by unfold cmpZ; rw [if_neg h1, if_pos h2]]
      repeat (first | refine CX.psA ?_ | refine CX.nil ?_ | refine CQ.thenN ?_ | refine CQ.thenR ?_ | refine CQ.thenX ?_ | refine CQ.blockN ?_ | refine CQ.blockR ?_ | refine CQ.blockX ?_ | refine CQ.blockYA ?_ | refine CC.seq ?_ | refine CC.block ?_ | refine CC.region ?_ | refine CC.skip ?_ | refine CC.ret ?_ | refine CC.exit ?_ | refine CC.condTA ?_ | refine CC.condFA ?_ | refine CC.condDTA ?_ | refine CC.condDFA ?_ | refine CX.storeA ?_ | refine CX.skipA ?_)
      refine CX.ps (PS.lssStr (a := a) (b := b) false h1') ?_
      repeat (first | refine CX.psA ?_ | refine CX.nil ?_ | refine CQ.thenN ?_ | refine CQ.thenR ?_ | refine CQ.thenX ?_ | refine CQ.blockN ?_ | refine CQ.blockR ?_ | refine CQ.blockX ?_ | refine CQ.blockYA ?_ | refine CC.seq ?_ | refine CC.block ?_ | refine CC.region ?_ | refine CC.skip ?_ | refine CC.ret ?_ | refine CC.exit ?_ | refine CC.condTA ?_ | refine CC.condFA ?_ | refine CC.condDTA ?_ | refine CC.condDFA ?_ | refine CX.storeA ?_ | refine CX.skipA ?_)
      refine CX.ps (PS.gtrStr (a := a) (b := b) false (by rw [h2, klt_irr])) ?_
      repeat (first | refine CX.psA ?_ | refine CX.nil ?_ | refine CQ.thenN ?_ | refine CQ.thenR ?_ | refine CQ.thenX ?_ | refine CQ.blockN ?_ | refine CQ.blockR ?_ | refine CQ.blockX ?_ | refine CQ.blockYA ?_ | refine CC.seq ?_ | refine CC.block ?_ | refine CC.region ?_ | refine CC.skip ?_ | refine CC.ret ?_ | refine CC.exit ?_ | refine CC.condTA ?_ | refine CC.condFA ?_ | refine CC.condDTA ?_ | refine CC.condDFA ?_ | refine CX.storeA ?_ | refine CX.skipA ?_)
      ((apply CQ.end1; (· rfl); (· exact .tmp rfl)); (· exact ⟨rfl, rfl⟩); (· repeat (first | exact Sel.nil _ | (apply Sel.cons; (· repeat (first | exact .head _ | apply Pick.tail | apply Upd.tail))))))
    · have h3 : klt b a = true := by
        rcases klt_tri a b with h | h | h
        · exact absurd h h1
        · exact absurd h h2
        · exact h
      rw [show cmpZ a b = 1 by unfold cmpZ; rw [if_neg h1, if_neg h2]]
      repeat (first | refine CX.psA ?_ | refine CX.nil ?_ | refine CQ.thenN ?_ | refine CQ.thenR ?_ | refine CQ.thenX ?_ | refine CQ.blockN ?_ | refine CQ.blockR ?_ | refine CQ.blockX ?_ | refine CQ.blockYA ?_ | refine CC.seq ?_ | refine CC.block ?_ | refine CC.region ?_ | refine CC.skip ?_ | refine CC.ret ?_ | refine CC.exit ?_ | refine CC.condTA ?_ | refine CC.condFA ?_ | refine CC.condDTA ?_ | refine CC.condDFA ?_ | refine CX.storeA ?_ | refine CX.skipA ?_)
      refine CX.ps (PS.lssStr (a := a) (b := b) false h1') ?_
      repeat (first | refine CX.psA ?_ | refine CX.nil ?_ | refine CQ.thenN ?_ | refine CQ.thenR ?_ | refine CQ.thenX ?_ | refine CQ.blockN ?_ | refine CQ.blockR ?_ | refine CQ.blockX ?_ | refine CQ.blockYA ?_ | refine CC.seq ?_ | refine CC.block ?_ | refine CC.region ?_ | refine CC.skip ?_ | refine CC.ret ?_ | refine CC.exit ?_ | refine CC.condTA ?_ | refine CC.condFA ?_ | refine CC.condDTA ?_ | refine CC.condDFA ?_ | refine CX.storeA ?_ | refine CX.skipA ?_)
      refine CX.ps (PS.gtrStr (a := a) (b := b) true h3) ?_
      repeat (first | refine CX.psA ?_ | refine CX.nil ?_ | refine CQ.thenN ?_ | refine CQ.thenR ?_ | refine CQ.thenX ?_ | refine CQ.blockN ?_ | refine CQ.blockR ?_ | refine CQ.blockX ?_ | refine CQ.blockYA ?_ | refine CC.seq ?_ | refine CC.block ?_ | refine CC.region ?_ | refine CC.skip ?_ | refine CC.ret ?_ | refine CC.exit ?_ | refine CC.condTA ?_ | refine CC.condFA ?_ | refine CC.condDTA ?_ | refine CC.condDFA ?_ | refine CX.storeA ?_ | refine CX.skipA ?_)
      ((apply CQ.end1; (· rfl); (· exact .tmp rfl)); (· exact ⟨rfl, rfl⟩); (· repeat (first | exact Sel.nil _ | (apply Sel.cons; (· repeat (first | exact .head _ | apply Pick.tail | apply Upd.tail))))))
theorem itC_c (t : List RwV) (l : List ChV) (ht : t.length ≤ 1073741824) (hl : l.length ≤ 1073741824) (a b : Option Addr) (ca cb' : Nat) (hca : t.length ≤ ca) (hcb : l.length ≤ cb') (b1 b2 b3 b4 : Nat) :
    Iter Try.prog 159 [.pointer (some ⟨b1, 0, none⟩), .pointer (some ⟨b2, 0, none⟩), .pointer (some ⟨b3, 0, none⟩), .pointer (some ⟨b4, 0, none⟩)]
      [bk b1 99 [.slice a t.length ca], bk b2 92 [.slice b l.length cb'], bk b3 162 [.func (.func 124) #[] #[]], bk b4 175 [.func (.func 136) #[] #[]]]
      (fun x => rwAt a t x ∧ chAt b l x) ((mrg rwKey chKey 0 t 0 l).map (encM a b 2 3)) := by
  refine Iter.intro Try.func159 rfl Try.ntmps159 rfl ?_
  rintro ly x I w ⟨hpa, hpb⟩ hY M0 hI0
  rw [List.length_map]
  generalize hL : mrg rwKey chKey 0 t 0 l = Lm at *
  repeat (first | refine CX.psA ?_ | refine CX.nil ?_ | refine CQ.thenN ?_ | refine CQ.thenR ?_ | refine CQ.thenX ?_ | refine CQ.blockN ?_ | refine CQ.blockR ?_ | refine CQ.blockX ?_ | refine CQ.blockYA ?_ | refine CC.seq ?_ | refine CC.block ?_ | refine CC.region ?_ | refine CC.skip ?_ | refine CC.ret ?_ | refine CC.exit ?_ | refine CC.condTA ?_ | refine CC.condFA ?_ | refine CC.condDTA ?_ | refine CC.condDFA ?_ | refine CX.storeA ?_ | refine CX.skipA ?_)
  refine CC.loop (X := Nat × Nat × Option Addr × Option Addr × Nat × List Assn)
    (fun s => [(0, .func (.yield ly) #[] #[]), (1, .pointer (some ⟨b1, 0, none⟩)), (2, .pointer (some ⟨b2, 0, none⟩)), (3, .pointer (some ⟨b3, 0, none⟩)), (4, .pointer (some ⟨b4, 0, none⟩))])
    (fun s => [many s.2.2.2.2.2, bk b1 99 [.slice s.2.2.1 (t.length - s.1) (ca - s.1)], bk b2 92 [.slice s.2.2.2.1 (l.length - s.2.1) (cb' - s.2.1)], bk b3 162 [.func (.func 124) #[] #[]], bk b4 175 [.func (.func 136) #[] #[]], exact x])
    (fun s => s.1 ≤ t.length ∧ s.2.1 ≤ l.length ∧ (s.1 < t.length → s.2.2.1 = atP a (s.1 * 2)) ∧ (s.2.1 < l.length → s.2.2.2.1 = atP b (s.2.1 * 3)) ∧ s.2.2.2.2.1 ≤ Lm.length ∧ mrg rwKey chKey s.1 (t.drop s.1) s.2.1 (l.drop s.2.1) = Lm.drop s.2.2.2.2.1 ∧ I s.2.2.2.2.1 s.2.2.2.2.2)
    (fun s => (t.length - s.1) + (l.length - s.2.1)) (0, 0, a, b, 0, M0) ⟨Nat.zero_le _, Nat.zero_le _, fun h => by
      obtain ⟨g, o, rfl⟩ := rwAt_some hpa (by omega)
      simp [atP_some], fun h => by
      obtain ⟨g, o, rfl⟩ := chAt_some hpb (by omega)
      simp [atP_some], Nat.zero_le _, by simpa using hL, hI0⟩ ⟨rfl, rfl, rfl, rfl, rfl, trivial⟩ (by simp only [Nat.sub_zero]; repeat (first | exact Sel.nil _ | (apply Sel.cons; (· repeat (first | exact .head _ | apply Pick.tail | apply Upd.tail))))) ?_
  rintro ⟨i, j, sa, sb, k, M⟩ ⟨hi, hj, hsa, hsb, hk, hm, hI⟩
  dsimp only at hi hj hsa hsb hk hm hI ⊢
  by_cases h1 : i < t.length
  · obtain ⟨ga, oa, rfl⟩ := rwAt_some hpa (by omega)
    obtain rfl := hsa h1
    rw [atP_some]
    have eA : t.drop i = t[i] :: t.drop (i + 1) := List.drop_eq_getElem_cons h1
    have nxA : i + 1 < t.length → some (⟨ga, if ca - i = 1 then oa + i * 2 else oa + i * 2 + 1 * 2, none⟩ : Addr) = atP (some ⟨ga, oa, none⟩) ((i + 1) * 2) := fun h => by
      rw [atP_some, if_neg (by omega)]; congr 2; omega
    by_cases h2 : j < l.length
    · obtain ⟨gb, ob', rfl⟩ := chAt_some hpb (by omega)
      obtain rfl := hsb h2
      rw [atP_some]
      have eB : l.drop j = l[j] :: l.drop (j + 1) := List.drop_eq_getElem_cons h2
      have nxB : j + 1 < l.length → some (⟨gb, if cb' - j = 1 then ob' + j * 3 else ob' + j * 3 + 1 * 3, none⟩ : Addr) = atP (some ⟨gb, ob', none⟩) ((j + 1) * 3) := fun h => by
        rw [atP_some, if_neg (by omega)]; congr 2; omega
      rw [eA, eB, mrg, ← eA, ← eB] at hm
      by_cases h3 : klt (rwKey t[i]) (chKey l[j]) = true
      · rw [if_pos h3] at hm
        obtain ⟨hk1, hk2, hm2⟩ := drop_cons hm
        have hz : cmpZ (t[i]).key (l[j]).key = -1 := if_pos h3
        repeat (first | refine CX.psA ?_ | refine CX.nil ?_ | refine CQ.thenN ?_ | refine CQ.thenR ?_ | refine CQ.thenX ?_ | refine CQ.blockN ?_ | refine CQ.blockR ?_ | refine CQ.blockX ?_ | refine CQ.blockYA ?_ | refine CC.seq ?_ | refine CC.block ?_ | refine CC.region ?_ | refine CC.skip ?_ | refine CC.ret ?_ | refine CC.exit ?_ | refine CC.condTA ?_ | refine CC.condFA ?_ | refine CC.condDTA ?_ | refine CC.condDFA ?_ | refine CX.storeA ?_ | refine CX.skipA ?_)
        refine CC.draw [(0, 1), (1, 1), (2, 0), (3, 1), (5, 1), (6, 1), (7, 0), (8, 1), (4, 2), (9, 2), (10, 2), (11, 0)] mixed rfl (by kernel_rfl) (by kernel_rfl) [bk b1 99 [.slice (some ⟨ga, oa + i * 2, none⟩) (t.length - i) (ca - i)], bk b2 92 [.slice (some ⟨gb, ob' + j * 3, none⟩) (l.length - j) (cb' - j)], bk b3 162 [.func (.func 124) #[] #[]], bk b4 175 [.func (.func 136) #[] #[]], exact x] ?_
        repeat (first | refine CH.pureA ?_ | refine CH.readA ?_ | refine CH.skA ?_ | refine CH.skCA ?_ | refine CH.nil ?_)
        refine CH.pure rfl (PS.indexAddr (j := 0) rfl rfl rfl rfl (by omega)) ?_
        (apply CH.read; (· rfl); (· apply PS.loadG (vs := (t[i]).cells); (· rfl); (· rfl); (· exact hpa.cells0 (by repeat (first | exact .head _ | apply Pick.tail | apply Upd.tail)) h1); (· rfl)); (· repeat (first | exact Sel.nil _ | (apply Sel.cons; (· repeat (first | exact .head _ | apply Pick.tail | apply Upd.tail))))))
        repeat (first | refine CH.pureA ?_ | refine CH.readA ?_ | refine CH.skA ?_ | refine CH.skCA ?_ | refine CH.nil ?_)
        refine CH.pure rfl (PS.indexAddr (j := 0) rfl rfl rfl rfl (by omega)) ?_
        (apply CH.read; (· rfl); (· apply PS.loadG (vs := (l[j]).cells); (· rfl); (· rfl); (· exact hpb.cells0 (by repeat (first | exact .head _ | apply Pick.tail | apply Upd.tail)) h2); (· rfl)); (· repeat (first | exact Sel.nil _ | (apply Sel.cons; (· repeat (first | exact .head _ | apply Pick.tail | apply Upd.tail))))))
        refine CH.chain rfl fun K hK => ?_
        refine CX.callF (k1R_c t[i]) ?_
        rintro _ _ ⟨rfl, rfl⟩
        (refine CX.nil ?_; refine CQ.thenK ?_; apply hK; (· repeat (first | exact Sel.nil _ | (apply Sel.cons; (· repeat (first | exact .head _ | apply Pick.tail | apply Upd.tail))))); clear hK K)
        refine CH.chain rfl fun K hK => ?_
        refine CX.callF (k1C_c l[j]) ?_
        rintro _ _ ⟨rfl, rfl⟩
        (refine CX.nil ?_; refine CQ.thenK ?_; apply hK; (· repeat (first | exact Sel.nil _ | (apply Sel.cons; (· repeat (first | exact .head _ | apply Pick.tail | apply Upd.tail))))); clear hK K)
        refine CH.chain rfl fun K hK => ?_
        refine CX.callA (cmp_c (t[i]).key (l[j]).key) ?_
        rw [hz]
        rintro _ _ ⟨rfl, rfl⟩
        (refine CX.nil ?_; refine CQ.thenK ?_; apply hK; (· repeat (first | exact Sel.nil _ | (apply Sel.cons; (· repeat (first | exact .head _ | apply Pick.tail | apply Upd.tail))))); clear hK K)
        repeat (first | refine CH.pureA ?_ | refine CH.readA ?_ | refine CH.skA ?_ | refine CH.skCA ?_ | refine CH.nil ?_)
        repeat (first | refine CX.psA ?_ | refine CX.nil ?_ | refine CQ.thenN ?_ | refine CQ.thenR ?_ | refine CQ.thenX ?_ | refine CQ.blockN ?_ | refine CQ.blockR ?_ | refine CQ.blockX ?_ | refine CQ.blockYA ?_ | refine CC.seq ?_ | refine CC.block ?_ | refine CC.region ?_ | refine CC.skip ?_ | refine CC.ret ?_ | refine CC.exit ?_ | refine CC.condTA ?_ | refine CC.condFA ?_ | refine CC.condDTA ?_ | refine CC.condDFA ?_ | refine CX.storeA ?_ | refine CX.skipA ?_)
        refine CC.draw [(0, 1), (1, 0), (2, 1), (3, 0), (4, 0), (5, 3)] mixed rfl (by kernel_rfl) (by kernel_rfl) [bk b1 99 [.slice (some ⟨ga, oa + i * 2, none⟩) (t.length - i) (ca - i)]] ?_
        repeat (first | refine CH.pureA ?_ | refine CH.readA ?_ | refine CH.skA ?_ | refine CH.skCA ?_ | refine CH.nil ?_)
        refine CH.pure rfl (PS.indexAddr (j := 0) rfl rfl rfl rfl (by omega)) ?_
        repeat (first | refine CH.pureA ?_ | refine CH.readA ?_ | refine CH.skA ?_ | refine CH.skCA ?_ | refine CH.nil ?_)
        refine CH.pure rfl (PS.sliceLo (l := 1) rfl rfl rfl rfl (by omega) (by omega)) ?_
        repeat (first | refine CH.pureA ?_ | refine CH.readA ?_ | refine CH.skA ?_ | refine CH.skCA ?_ | refine CH.nil ?_)
        refine CH.tail rfl rfl fun K hK => ?_
        refine CX.storeA ?_
        (refine CX.nil ?_; refine CQ.thenK ?_; apply hK; clear hK K)
        repeat (first | refine CH.pureA ?_ | refine CH.readA ?_ | refine CH.skA ?_ | refine CH.skCA ?_ | refine CH.nil ?_)
        repeat (first | refine CX.psA ?_ | refine CX.nil ?_ | refine CQ.thenN ?_ | refine CQ.thenX ?_ | refine CQ.blockN ?_ | refine CQ.blockX ?_ | refine CQ.blockYA ?_ | refine CC.seq ?_ | refine CC.block ?_ | refine CC.skip ?_ | refine CC.exit ?_ | refine CC.condTA ?_ | refine CC.condFA ?_ | refine CC.condDTA ?_ | refine CC.condDFA ?_ | refine CX.storeA ?_ | refine CX.skipA ?_)
        refine CC.region ?_
        repeat (first | refine CX.psA ?_ | refine CX.nil ?_ | refine CQ.thenN ?_ | refine CQ.thenX ?_ | refine CQ.blockN ?_ | refine CQ.blockX ?_ | refine CQ.blockYA ?_ | refine CC.seq ?_ | refine CC.block ?_ | refine CC.skip ?_ | refine CC.exit ?_ | refine CC.condTA ?_ | refine CC.condFA ?_ | refine CC.condDTA ?_ | refine CC.condDFA ?_ | refine CX.storeA ?_ | refine CX.skipA ?_)
        refine CC.regionI ?_
        refine CXI.ps ?_
        refine CXI.ps ?_
        refine CXI.ps ?_
        refine CXI.yieldM hY (k := k) (M := M) (vs := [.pointer (some ⟨ga, oa + i * 2, none⟩), .pointer none]) (by rw [List.getElem?_map, hk2]; simp [encM, atP_some]) hI ?_
        intro M' hI'
        refine CXI.ps ?_
        refine CXI.nil ?_
        repeat (first | refine CX.psA ?_ | refine CX.nil ?_ | refine CQ.thenN ?_ | refine CQ.thenX ?_ | refine CQ.blockN ?_ | refine CQ.blockX ?_ | refine CQ.blockYA ?_ | refine CC.seq ?_ | refine CC.block ?_ | refine CC.skip ?_ | refine CC.exit ?_ | refine CC.condTA ?_ | refine CC.condFA ?_ | refine CC.condDTA ?_ | refine CC.condDFA ?_ | refine CX.storeA ?_ | refine CX.skipA ?_)
        exact CQ.round (x := (i, j, some ⟨ga, oa + i * 2, none⟩, some ⟨gb, ob' + j * 3, none⟩, k, M)) (i + 1, j, some ⟨ga, if ca - i = 1 then oa + i * 2 else oa + i * 2 + 1 * 2, none⟩, some ⟨gb, ob' + j * 3, none⟩, k + 1, M') ⟨by dsimp only; omega, by dsimp only; omega, nxA, fun _ => by rw [atP_some], by dsimp only; omega, hm2, hI'⟩ (by dsimp only; omega) ⟨rfl, rfl, rfl, rfl, rfl, trivial⟩ (by (try simp only [Nat.sub_sub]); repeat (first | exact Sel.nil _ | (apply Sel.cons; (· repeat (first | exact .head _ | apply Pick.tail | apply Upd.tail)))))
      · rw [if_neg h3] at hm
        by_cases h4 : rwKey t[i] = chKey l[j]
        · rw [if_pos h4] at hm
          obtain ⟨hk1, hk2, hm2⟩ := drop_cons hm
          have hz : cmpZ (t[i]).key (l[j]).key = 0 := (if_neg h3).trans (if_pos h4)
          repeat (first | refine CX.psA ?_ | refine CX.nil ?_ | refine CQ.thenN ?_ | refine CQ.thenR ?_ | refine CQ.thenX ?_ | refine CQ.blockN ?_ | refine CQ.blockR ?_ | refine CQ.blockX ?_ | refine CQ.blockYA ?_ | refine CC.seq ?_ | refine CC.block ?_ | refine CC.region ?_ | refine CC.skip ?_ | refine CC.ret ?_ | refine CC.exit ?_ | refine CC.condTA ?_ | refine CC.condFA ?_ | refine CC.condDTA ?_ | refine CC.condDFA ?_ | refine CX.storeA ?_ | refine CX.skipA ?_)
          refine CC.draw [(0, 1), (1, 1), (2, 0), (3, 1), (5, 1), (6, 1), (7, 0), (8, 1), (4, 2), (9, 2), (10, 2), (11, 0)] mixed rfl (by kernel_rfl) (by kernel_rfl) [bk b1 99 [.slice (some ⟨ga, oa + i * 2, none⟩) (t.length - i) (ca - i)], bk b2 92 [.slice (some ⟨gb, ob' + j * 3, none⟩) (l.length - j) (cb' - j)], bk b3 162 [.func (.func 124) #[] #[]], bk b4 175 [.func (.func 136) #[] #[]], exact x] ?_
          repeat (first | refine CH.pureA ?_ | refine CH.readA ?_ | refine CH.skA ?_ | refine CH.skCA ?_ | refine CH.nil ?_)
          refine CH.pure rfl (PS.indexAddr (j := 0) rfl rfl rfl rfl (by omega)) ?_
          (apply CH.read; (· rfl); (· apply PS.loadG (vs := (t[i]).cells); (· rfl); (· rfl); (· exact hpa.cells0 (by repeat (first | exact .head _ | apply Pick.tail | apply Upd.tail)) h1); (· rfl)); (· repeat (first | exact Sel.nil _ | (apply Sel.cons; (· repeat (first | exact .head _ | apply Pick.tail | apply Upd.tail))))))
          repeat (first | refine CH.pureA ?_ | refine CH.readA ?_ | refine CH.skA ?_ | refine CH.skCA ?_ | refine CH.nil ?_)
          refine CH.pure rfl (PS.indexAddr (j := 0) rfl rfl rfl rfl (by omega)) ?_
          (apply CH.read; (· rfl); (· apply PS.loadG (vs := (l[j]).cells); (· rfl); (· rfl); (· exact hpb.cells0 (by repeat (first | exact .head _ | apply Pick.tail | apply Upd.tail)) h2); (· rfl)); (· repeat (first | exact Sel.nil _ | (apply Sel.cons; (· repeat (first | exact .head _ | apply Pick.tail | apply Upd.tail))))))
          refine CH.chain rfl fun K hK => ?_
          refine CX.callF (k1R_c t[i]) ?_
          rintro _ _ ⟨rfl, rfl⟩
          (refine CX.nil ?_; refine CQ.thenK ?_; apply hK; (· repeat (first | exact Sel.nil _ | (apply Sel.cons; (· repeat (first | exact .head _ | apply Pick.tail | apply Upd.tail))))); clear hK K)
          refine CH.chain rfl fun K hK => ?_
          refine CX.callF (k1C_c l[j]) ?_
          rintro _ _ ⟨rfl, rfl⟩
          (refine CX.nil ?_; refine CQ.thenK ?_; apply hK; (· repeat (first | exact Sel.nil _ | (apply Sel.cons; (· repeat (first | exact .head _ | apply Pick.tail | apply Upd.tail))))); clear hK K)
          refine CH.chain rfl fun K hK => ?_
          refine CX.callA (cmp_c (t[i]).key (l[j]).key) ?_
          rw [hz]
          rintro _ _ ⟨rfl, rfl⟩
          (refine CX.nil ?_; refine CQ.thenK ?_; apply hK; (· repeat (first | exact Sel.nil _ | (apply Sel.cons; (· repeat (first | exact .head _ | apply Pick.tail | apply Upd.tail))))); clear hK K)
          repeat (first | refine CH.pureA ?_ | refine CH.readA ?_ | refine CH.skA ?_ | refine CH.skCA ?_ | refine CH.nil ?_)
          repeat (first | refine CX.psA ?_ | refine CX.nil ?_ | refine CQ.thenN ?_ | refine CQ.thenR ?_ | refine CQ.thenX ?_ | refine CQ.blockN ?_ | refine CQ.blockR ?_ | refine CQ.blockX ?_ | refine CQ.blockYA ?_ | refine CC.seq ?_ | refine CC.block ?_ | refine CC.region ?_ | refine CC.skip ?_ | refine CC.ret ?_ | refine CC.exit ?_ | refine CC.condTA ?_ | refine CC.condFA ?_ | refine CC.condDTA ?_ | refine CC.condDFA ?_ | refine CX.storeA ?_ | refine CX.skipA ?_)
          refine CC.draw [(0, 1), (1, 0), (2, 1), (3, 0), (4, 0), (5, 3)] mixed rfl (by kernel_rfl) (by kernel_rfl) [bk b1 99 [.slice (some ⟨ga, oa + i * 2, none⟩) (t.length - i) (ca - i)]] ?_
          repeat (first | refine CH.pureA ?_ | refine CH.readA ?_ | refine CH.skA ?_ | refine CH.skCA ?_ | refine CH.nil ?_)
          refine CH.pure rfl (PS.indexAddr (j := 0) rfl rfl rfl rfl (by omega)) ?_
          repeat (first | refine CH.pureA ?_ | refine CH.readA ?_ | refine CH.skA ?_ | refine CH.skCA ?_ | refine CH.nil ?_)
          refine CH.pure rfl (PS.sliceLo (l := 1) rfl rfl rfl rfl (by omega) (by omega)) ?_
          repeat (first | refine CH.pureA ?_ | refine CH.readA ?_ | refine CH.skA ?_ | refine CH.skCA ?_ | refine CH.nil ?_)
          refine CH.tail rfl rfl fun K hK => ?_
          refine CX.storeA ?_
          (refine CX.nil ?_; refine CQ.thenK ?_; apply hK; clear hK K)
          repeat (first | refine CH.pureA ?_ | refine CH.readA ?_ | refine CH.skA ?_ | refine CH.skCA ?_ | refine CH.nil ?_)
          repeat (first | refine CX.psA ?_ | refine CX.nil ?_ | refine CQ.thenN ?_ | refine CQ.thenX ?_ | refine CQ.blockN ?_ | refine CQ.blockX ?_ | refine CQ.blockYA ?_ | refine CC.seq ?_ | refine CC.block ?_ | refine CC.skip ?_ | refine CC.exit ?_ | refine CC.condTA ?_ | refine CC.condFA ?_ | refine CC.condDTA ?_ | refine CC.condDFA ?_ | refine CX.storeA ?_ | refine CX.skipA ?_)
          refine CC.region ?_
          repeat (first | refine CX.psA ?_ | refine CX.nil ?_ | refine CQ.thenN ?_ | refine CQ.thenX ?_ | refine CQ.blockN ?_ | refine CQ.blockX ?_ | refine CQ.blockYA ?_ | refine CC.seq ?_ | refine CC.block ?_ | refine CC.skip ?_ | refine CC.exit ?_ | refine CC.condTA ?_ | refine CC.condFA ?_ | refine CC.condDTA ?_ | refine CC.condDFA ?_ | refine CX.storeA ?_ | refine CX.skipA ?_)
          refine CC.draw [(0, 1), (1, 0), (2, 1), (3, 0), (4, 0), (5, 3)] mixed rfl (by kernel_rfl) (by kernel_rfl) [bk b2 92 [.slice (some ⟨gb, ob' + j * 3, none⟩) (l.length - j) (cb' - j)]] ?_
          repeat (first | refine CH.pureA ?_ | refine CH.readA ?_ | refine CH.skA ?_ | refine CH.skCA ?_ | refine CH.nil ?_)
          refine CH.pure rfl (PS.indexAddr (j := 0) rfl rfl rfl rfl (by omega)) ?_
          repeat (first | refine CH.pureA ?_ | refine CH.readA ?_ | refine CH.skA ?_ | refine CH.skCA ?_ | refine CH.nil ?_)
          refine CH.pure rfl (PS.sliceLo (l := 1) rfl rfl rfl rfl (by omega) (by omega)) ?_
          repeat (first | refine CH.pureA ?_ | refine CH.readA ?_ | refine CH.skA ?_ | refine CH.skCA ?_ | refine CH.nil ?_)
          refine CH.tail rfl rfl fun K hK => ?_
          refine CX.storeA ?_
          (refine CX.nil ?_; refine CQ.thenK ?_; apply hK; clear hK K)
          repeat (first | refine CH.pureA ?_ | refine CH.readA ?_ | refine CH.skA ?_ | refine CH.skCA ?_ | refine CH.nil ?_)
          repeat (first | refine CX.psA ?_ | refine CX.nil ?_ | refine CQ.thenN ?_ | refine CQ.thenX ?_ | refine CQ.blockN ?_ | refine CQ.blockX ?_ | refine CQ.blockYA ?_ | refine CC.seq ?_ | refine CC.block ?_ | refine CC.skip ?_ | refine CC.exit ?_ | refine CC.condTA ?_ | refine CC.condFA ?_ | refine CC.condDTA ?_ | refine CC.condDFA ?_ | refine CX.storeA ?_ | refine CX.skipA ?_)
          refine CC.regionI ?_
          refine CXI.ps ?_
          refine CXI.ps ?_
          refine CXI.ps ?_
          refine CXI.yieldM hY (k := k) (M := M) (vs := [.pointer (some ⟨ga, oa + i * 2, none⟩), .pointer (some ⟨gb, ob' + j * 3, none⟩)]) (by rw [List.getElem?_map, hk2]; simp [encM, atP_some]) hI ?_
          intro M' hI'
          refine CXI.ps ?_
          refine CXI.nil ?_
          repeat (first | refine CX.psA ?_ | refine CX.nil ?_ | refine CQ.thenN ?_ | refine CQ.thenX ?_ | refine CQ.blockN ?_ | refine CQ.blockX ?_ | refine CQ.blockYA ?_ | refine CC.seq ?_ | refine CC.block ?_ | refine CC.skip ?_ | refine CC.exit ?_ | refine CC.condTA ?_ | refine CC.condFA ?_ | refine CC.condDTA ?_ | refine CC.condDFA ?_ | refine CX.storeA ?_ | refine CX.skipA ?_)
          exact CQ.round (x := (i, j, some ⟨ga, oa + i * 2, none⟩, some ⟨gb, ob' + j * 3, none⟩, k, M)) (i + 1, j + 1, some ⟨ga, if ca - i = 1 then oa + i * 2 else oa + i * 2 + 1 * 2, none⟩, some ⟨gb, if cb' - j = 1 then ob' + j * 3 else ob' + j * 3 + 1 * 3, none⟩, k + 1, M') ⟨by dsimp only; omega, by dsimp only; omega, nxA, nxB, by dsimp only; omega, hm2, hI'⟩ (by dsimp only; omega) ⟨rfl, rfl, rfl, rfl, rfl, trivial⟩ (by (try simp only [Nat.sub_sub]); repeat (first | exact Sel.nil _ | (apply Sel.cons; (· repeat (first | exact .head _ | apply Pick.tail | apply Upd.tail)))))
        · rw [if_neg h4] at hm
          obtain ⟨hk1, hk2, hm2⟩ := drop_cons hm
          have hz : cmpZ (t[i]).key (l[j]).key = 1 := (if_neg h3).trans (if_neg h4)
          repeat (first | refine CX.psA ?_ | refine CX.nil ?_ | refine CQ.thenN ?_ | refine CQ.thenR ?_ | refine CQ.thenX ?_ | refine CQ.blockN ?_ | refine CQ.blockR ?_ | refine CQ.blockX ?_ | refine CQ.blockYA ?_ | refine CC.seq ?_ | refine CC.block ?_ | refine CC.region ?_ | refine CC.skip ?_ | refine CC.ret ?_ | refine CC.exit ?_ | refine CC.condTA ?_ | refine CC.condFA ?_ | refine CC.condDTA ?_ | refine CC.condDFA ?_ | refine CX.storeA ?_ | refine CX.skipA ?_)
          refine CC.draw [(0, 1), (1, 1), (2, 0), (3, 1), (5, 1), (6, 1), (7, 0), (8, 1), (4, 2), (9, 2), (10, 2), (11, 0)] mixed rfl (by kernel_rfl) (by kernel_rfl) [bk b1 99 [.slice (some ⟨ga, oa + i * 2, none⟩) (t.length - i) (ca - i)], bk b2 92 [.slice (some ⟨gb, ob' + j * 3, none⟩) (l.length - j) (cb' - j)], bk b3 162 [.func (.func 124) #[] #[]], bk b4 175 [.func (.func 136) #[] #[]], exact x] ?_
          repeat (first | refine CH.pureA ?_ | refine CH.readA ?_ | refine CH.skA ?_ | refine CH.skCA ?_ | refine CH.nil ?_)
          refine CH.pure rfl (PS.indexAddr (j := 0) rfl rfl rfl rfl (by omega)) ?_
          (apply CH.read; (· rfl); (· apply PS.loadG (vs := (t[i]).cells); (· rfl); (· rfl); (· exact hpa.cells0 (by repeat (first | exact .head _ | apply Pick.tail | apply Upd.tail)) h1); (· rfl)); (· repeat (first | exact Sel.nil _ | (apply Sel.cons; (· repeat (first | exact .head _ | apply Pick.tail | apply Upd.tail))))))
          repeat (first | refine CH.pureA ?_ | refine CH.readA ?_ | refine CH.skA ?_ | refine CH.skCA ?_ | refine CH.nil ?_)
          refine CH.pure rfl (PS.indexAddr (j := 0) rfl rfl rfl rfl (by omega)) ?_
          (apply CH.read; (· rfl); (· apply PS.loadG (vs := (l[j]).cells); (· rfl); (· rfl); (· exact hpb.cells0 (by repeat (first | exact .head _ | apply Pick.tail | apply Upd.tail)) h2); (· rfl)); (· repeat (first | exact Sel.nil _ | (apply Sel.cons; (· repeat (first | exact .head _ | apply Pick.tail | apply Upd.tail))))))
          refine CH.chain rfl fun K hK => ?_
          refine CX.callF (k1R_c t[i]) ?_
          rintro _ _ ⟨rfl, rfl⟩
          (refine CX.nil ?_; refine CQ.thenK ?_; apply hK; (· repeat (first | exact Sel.nil _ | (apply Sel.cons; (· repeat (first | exact .head _ | apply Pick.tail | apply Upd.tail))))); clear hK K)
          refine CH.chain rfl fun K hK => ?_
          refine CX.callF (k1C_c l[j]) ?_
          rintro _ _ ⟨rfl, rfl⟩
          (refine CX.nil ?_; refine CQ.thenK ?_; apply hK; (· repeat (first | exact Sel.nil _ | (apply Sel.cons; (· repeat (first | exact .head _ | apply Pick.tail | apply Upd.tail))))); clear hK K)
          refine CH.chain rfl fun K hK => ?_
          refine CX.callA (cmp_c (t[i]).key (l[j]).key) ?_
          rw [hz]
          rintro _ _ ⟨rfl, rfl⟩
          (refine CX.nil ?_; refine CQ.thenK ?_; apply hK; (· repeat (first | exact Sel.nil _ | (apply Sel.cons; (· repeat (first | exact .head _ | apply Pick.tail | apply Upd.tail))))); clear hK K)
          repeat (first | refine CH.pureA ?_ | refine CH.readA ?_ | refine CH.skA ?_ | refine CH.skCA ?_ | refine CH.nil ?_)
          repeat (first | refine CX.psA ?_ | refine CX.nil ?_ | refine CQ.thenN ?_ | refine CQ.thenR ?_ | refine CQ.thenX ?_ | refine CQ.blockN ?_ | refine CQ.blockR ?_ | refine CQ.blockX ?_ | refine CQ.blockYA ?_ | refine CC.seq ?_ | refine CC.block ?_ | refine CC.region ?_ | refine CC.skip ?_ | refine CC.ret ?_ | refine CC.exit ?_ | refine CC.condTA ?_ | refine CC.condFA ?_ | refine CC.condDTA ?_ | refine CC.condDFA ?_ | refine CX.storeA ?_ | refine CX.skipA ?_)
          refine CC.draw [(0, 1), (1, 0), (2, 1), (3, 0), (4, 0), (5, 3)] mixed rfl (by kernel_rfl) (by kernel_rfl) [bk b2 92 [.slice (some ⟨gb, ob' + j * 3, none⟩) (l.length - j) (cb' - j)]] ?_
          repeat (first | refine CH.pureA ?_ | refine CH.readA ?_ | refine CH.skA ?_ | refine CH.skCA ?_ | refine CH.nil ?_)
          refine CH.pure rfl (PS.indexAddr (j := 0) rfl rfl rfl rfl (by omega)) ?_
          repeat (first | refine CH.pureA ?_ | refine CH.readA ?_ | refine CH.skA ?_ | refine CH.skCA ?_ | refine CH.nil ?_)
          refine CH.pure rfl (PS.sliceLo (l := 1) rfl rfl rfl rfl (by omega) (by omega)) ?_
          repeat (first | refine CH.pureA ?_ | refine CH.readA ?_ | refine CH.skA ?_ | refine CH.skCA ?_ | refine CH.nil ?_)
          refine CH.tail rfl rfl fun K hK => ?_
          refine CX.storeA ?_
          (refine CX.nil ?_; refine CQ.thenK ?_; apply hK; clear hK K)
          repeat (first | refine CH.pureA ?_ | refine CH.readA ?_ | refine CH.skA ?_ | refine CH.skCA ?_ | refine CH.nil ?_)
          repeat (first | refine CX.psA ?_ | refine CX.nil ?_ | refine CQ.thenN ?_ | refine CQ.thenX ?_ | refine CQ.blockN ?_ | refine CQ.blockX ?_ | refine CQ.blockYA ?_ | refine CC.seq ?_ | refine CC.block ?_ | refine CC.skip ?_ | refine CC.exit ?_ | refine CC.condTA ?_ | refine CC.condFA ?_ | refine CC.condDTA ?_ | refine CC.condDFA ?_ | refine CX.storeA ?_ | refine CX.skipA ?_)
          refine CC.regionI ?_
          refine CXI.ps ?_
          refine CXI.ps ?_
          refine CXI.ps ?_
          refine CXI.yieldM hY (k := k) (M := M) (vs := [.pointer none, .pointer (some ⟨gb, ob' + j * 3, none⟩)]) (by rw [List.getElem?_map, hk2]; simp [encM, atP_some]) hI ?_
          intro M' hI'
          refine CXI.ps ?_
          refine CXI.nil ?_
          repeat (first | refine CX.psA ?_ | refine CX.nil ?_ | refine CQ.thenN ?_ | refine CQ.thenX ?_ | refine CQ.blockN ?_ | refine CQ.blockX ?_ | refine CQ.blockYA ?_ | refine CC.seq ?_ | refine CC.block ?_ | refine CC.skip ?_ | refine CC.exit ?_ | refine CC.condTA ?_ | refine CC.condFA ?_ | refine CC.condDTA ?_ | refine CC.condDFA ?_ | refine CX.storeA ?_ | refine CX.skipA ?_)
          exact CQ.round (x := (i, j, some ⟨ga, oa + i * 2, none⟩, some ⟨gb, ob' + j * 3, none⟩, k, M)) (i, j + 1, some ⟨ga, oa + i * 2, none⟩, some ⟨gb, if cb' - j = 1 then ob' + j * 3 else ob' + j * 3 + 1 * 3, none⟩, k + 1, M') ⟨by dsimp only; omega, by dsimp only; omega, (fun _ => by rw [atP_some]), nxB, by dsimp only; omega, hm2, hI'⟩ (by dsimp only; omega) ⟨rfl, rfl, rfl, rfl, rfl, trivial⟩ (by (try simp only [Nat.sub_sub]); repeat (first | exact Sel.nil _ | (apply Sel.cons; (· repeat (first | exact .head _ | apply Pick.tail | apply Upd.tail)))))
    · obtain rfl : j = l.length := by omega
      rw [eA, List.drop_length, mrg] at hm
      obtain ⟨hk1, hk2, hm2⟩ := drop_cons hm
      repeat (first | refine CX.psA ?_ | refine CX.nil ?_ | refine CQ.thenN ?_ | refine CQ.thenR ?_ | refine CQ.thenX ?_ | refine CQ.blockN ?_ | refine CQ.blockR ?_ | refine CQ.blockX ?_ | refine CQ.blockYA ?_ | refine CC.seq ?_ | refine CC.block ?_ | refine CC.region ?_ | refine CC.skip ?_ | refine CC.ret ?_ | refine CC.exit ?_ | refine CC.condTA ?_ | refine CC.condFA ?_ | refine CC.condDTA ?_ | refine CC.condDFA ?_ | refine CX.storeA ?_ | refine CX.skipA ?_)
      refine CC.draw [(0, 1), (1, 0), (2, 1), (3, 0), (4, 0), (5, 3)] mixed rfl (by kernel_rfl) (by kernel_rfl) [bk b1 99 [.slice (some ⟨ga, oa + i * 2, none⟩) (t.length - i) (ca - i)]] ?_
      repeat (first | refine CH.pureA ?_ | refine CH.readA ?_ | refine CH.skA ?_ | refine CH.skCA ?_ | refine CH.nil ?_)
      refine CH.pure rfl (PS.indexAddr (j := 0) rfl rfl rfl rfl (by omega)) ?_
      repeat (first | refine CH.pureA ?_ | refine CH.readA ?_ | refine CH.skA ?_ | refine CH.skCA ?_ | refine CH.nil ?_)
      refine CH.pure rfl (PS.sliceLo (l := 1) rfl rfl rfl rfl (by omega) (by omega)) ?_
      repeat (first | refine CH.pureA ?_ | refine CH.readA ?_ | refine CH.skA ?_ | refine CH.skCA ?_ | refine CH.nil ?_)
      refine CH.tail rfl rfl fun K hK => ?_
      refine CX.storeA ?_
      (refine CX.nil ?_; refine CQ.thenK ?_; apply hK; clear hK K)
      repeat (first | refine CH.pureA ?_ | refine CH.readA ?_ | refine CH.skA ?_ | refine CH.skCA ?_ | refine CH.nil ?_)
      repeat (first | refine CX.psA ?_ | refine CX.nil ?_ | refine CQ.thenN ?_ | refine CQ.thenX ?_ | refine CQ.blockN ?_ | refine CQ.blockX ?_ | refine CQ.blockYA ?_ | refine CC.seq ?_ | refine CC.block ?_ | refine CC.skip ?_ | refine CC.exit ?_ | refine CC.condTA ?_ | refine CC.condFA ?_ | refine CC.condDTA ?_ | refine CC.condDFA ?_ | refine CX.storeA ?_ | refine CX.skipA ?_)
      refine CC.region ?_
      repeat (first | refine CX.psA ?_ | refine CX.nil ?_ | refine CQ.thenN ?_ | refine CQ.thenX ?_ | refine CQ.blockN ?_ | refine CQ.blockX ?_ | refine CQ.blockYA ?_ | refine CC.seq ?_ | refine CC.block ?_ | refine CC.skip ?_ | refine CC.exit ?_ | refine CC.condTA ?_ | refine CC.condFA ?_ | refine CC.condDTA ?_ | refine CC.condDFA ?_ | refine CX.storeA ?_ | refine CX.skipA ?_)
      refine CC.regionI ?_
      refine CXI.ps ?_
      refine CXI.ps ?_
      refine CXI.ps ?_
      refine CXI.yieldM hY (k := k) (M := M) (vs := [.pointer (some ⟨ga, oa + i * 2, none⟩), .pointer none]) (by rw [List.getElem?_map, hk2]; simp [encM, atP_some]) hI ?_
      intro M' hI'
      refine CXI.ps ?_
      refine CXI.nil ?_
      repeat (first | refine CX.psA ?_ | refine CX.nil ?_ | refine CQ.thenN ?_ | refine CQ.thenX ?_ | refine CQ.blockN ?_ | refine CQ.blockX ?_ | refine CQ.blockYA ?_ | refine CC.seq ?_ | refine CC.block ?_ | refine CC.skip ?_ | refine CC.exit ?_ | refine CC.condTA ?_ | refine CC.condFA ?_ | refine CC.condDTA ?_ | refine CC.condDFA ?_ | refine CX.storeA ?_ | refine CX.skipA ?_)
      exact CQ.round (x := (i, l.length, some ⟨ga, oa + i * 2, none⟩, sb, k, M)) (i + 1, l.length, some ⟨ga, if ca - i = 1 then oa + i * 2 else oa + i * 2 + 1 * 2, none⟩, sb, k + 1, M') ⟨by dsimp only; omega, by dsimp only; omega, nxA, (fun h => by dsimp only at h; omega), by dsimp only; omega, by dsimp only; rw [List.drop_length]; exact hm2, hI'⟩ (by dsimp only; omega) ⟨rfl, rfl, rfl, rfl, rfl, trivial⟩ (by (try simp only [Nat.sub_sub]); repeat (first | exact Sel.nil _ | (apply Sel.cons; (· repeat (first | exact .head _ | apply Pick.tail | apply Upd.tail)))))
  · obtain rfl : i = t.length := by omega
    by_cases h2 : j < l.length
    · obtain ⟨gb, ob', rfl⟩ := chAt_some hpb (by omega)
      obtain rfl := hsb h2
      rw [atP_some]
      have eB : l.drop j = l[j] :: l.drop (j + 1) := List.drop_eq_getElem_cons h2
      have nxB : j + 1 < l.length → some (⟨gb, if cb' - j = 1 then ob' + j * 3 else ob' + j * 3 + 1 * 3, none⟩ : Addr) = atP (some ⟨gb, ob', none⟩) ((j + 1) * 3) := fun h => by
        rw [atP_some, if_neg (by omega)]; congr 2; omega
      rw [eB, List.drop_length, mrg] at hm
      obtain ⟨hk1, hk2, hm2⟩ := drop_cons hm
      repeat (first | refine CX.psA ?_ | refine CX.nil ?_ | refine CQ.thenN ?_ | refine CQ.thenR ?_ | refine CQ.thenX ?_ | refine CQ.blockN ?_ | refine CQ.blockR ?_ | refine CQ.blockX ?_ | refine CQ.blockYA ?_ | refine CC.seq ?_ | refine CC.block ?_ | refine CC.region ?_ | refine CC.skip ?_ | refine CC.ret ?_ | refine CC.exit ?_ | refine CC.condTA ?_ | refine CC.condFA ?_ | refine CC.condDTA ?_ | refine CC.condDFA ?_ | refine CX.storeA ?_ | refine CX.skipA ?_)
      refine CC.draw [(0, 1), (1, 0), (2, 1), (3, 0), (4, 0), (5, 3)] mixed rfl (by kernel_rfl) (by kernel_rfl) [bk b2 92 [.slice (some ⟨gb, ob' + j * 3, none⟩) (l.length - j) (cb' - j)]] ?_
      repeat (first | refine CH.pureA ?_ | refine CH.readA ?_ | refine CH.skA ?_ | refine CH.skCA ?_ | refine CH.nil ?_)
      refine CH.pure rfl (PS.indexAddr (j := 0) rfl rfl rfl rfl (by omega)) ?_
      repeat (first | refine CH.pureA ?_ | refine CH.readA ?_ | refine CH.skA ?_ | refine CH.skCA ?_ | refine CH.nil ?_)
      refine CH.pure rfl (PS.sliceLo (l := 1) rfl rfl rfl rfl (by omega) (by omega)) ?_
      repeat (first | refine CH.pureA ?_ | refine CH.readA ?_ | refine CH.skA ?_ | refine CH.skCA ?_ | refine CH.nil ?_)
      refine CH.tail rfl rfl fun K hK => ?_
      refine CX.storeA ?_
      (refine CX.nil ?_; refine CQ.thenK ?_; apply hK; clear hK K)
      repeat (first | refine CH.pureA ?_ | refine CH.readA ?_ | refine CH.skA ?_ | refine CH.skCA ?_ | refine CH.nil ?_)
      repeat (first | refine CX.psA ?_ | refine CX.nil ?_ | refine CQ.thenN ?_ | refine CQ.thenX ?_ | refine CQ.blockN ?_ | refine CQ.blockX ?_ | refine CQ.blockYA ?_ | refine CC.seq ?_ | refine CC.block ?_ | refine CC.skip ?_ | refine CC.exit ?_ | refine CC.condTA ?_ | refine CC.condFA ?_ | refine CC.condDTA ?_ | refine CC.condDFA ?_ | refine CX.storeA ?_ | refine CX.skipA ?_)
      refine CC.regionI ?_
      refine CXI.ps ?_
      refine CXI.ps ?_
      refine CXI.ps ?_
      refine CXI.yieldM hY (k := k) (M := M) (vs := [.pointer none, .pointer (some ⟨gb, ob' + j * 3, none⟩)]) (by rw [List.getElem?_map, hk2]; simp [encM, atP_some]) hI ?_
      intro M' hI'
      refine CXI.ps ?_
      refine CXI.nil ?_
      repeat (first | refine CX.psA ?_ | refine CX.nil ?_ | refine CQ.thenN ?_ | refine CQ.thenX ?_ | refine CQ.blockN ?_ | refine CQ.blockX ?_ | refine CQ.blockYA ?_ | refine CC.seq ?_ | refine CC.block ?_ | refine CC.skip ?_ | refine CC.exit ?_ | refine CC.condTA ?_ | refine CC.condFA ?_ | refine CC.condDTA ?_ | refine CC.condDFA ?_ | refine CX.storeA ?_ | refine CX.skipA ?_)
      exact CQ.round (x := (t.length, j, sa, some ⟨gb, ob' + j * 3, none⟩, k, M)) (t.length, j + 1, sa, some ⟨gb, if cb' - j = 1 then ob' + j * 3 else ob' + j * 3 + 1 * 3, none⟩, k + 1, M') ⟨by dsimp only; omega, by dsimp only; omega, (fun h => by dsimp only at h; omega), nxB, by dsimp only; omega, by dsimp only; rw [List.drop_length]; exact hm2, hI'⟩ (by dsimp only; omega) ⟨rfl, rfl, rfl, rfl, rfl, trivial⟩ (by (try simp only [Nat.sub_sub]); repeat (first | exact Sel.nil _ | (apply Sel.cons; (· repeat (first | exact .head _ | apply Pick.tail | apply Upd.tail)))))
    · obtain rfl : j = l.length := by omega
      rw [List.drop_length, List.drop_length, mrg] at hm
      have : Lm.length ≤ k := by
        rcases Nat.lt_or_ge k Lm.length with h | h
        · rw [List.drop_eq_getElem_cons h] at hm; cases hm
        · exact h
      repeat (first | refine CX.psA ?_ | refine CX.nil ?_ | refine CQ.thenN ?_ | refine CQ.thenR ?_ | refine CQ.thenX ?_ | refine CQ.blockN ?_ | refine CQ.blockR ?_ | refine CQ.blockX ?_ | refine CQ.blockYA ?_ | refine CC.seq ?_ | refine CC.block ?_ | refine CC.region ?_ | refine CC.skip ?_ | refine CC.ret ?_ | refine CC.exit ?_ | refine CC.condTA ?_ | refine CC.condFA ?_ | refine CC.condDTA ?_ | refine CC.condDFA ?_ | refine CX.storeA ?_ | refine CX.skipA ?_)
      exact CQ.endIter rfl hI (by omega)
theorem itR_c (t : List RwV) (l : List RwV) (ht : t.length ≤ 1073741824) (hl : l.length ≤ 1073741824) (a b : Option Addr) (ca cb' : Nat) (hca : t.length ≤ ca) (hcb : l.length ≤ cb') (b1 b2 b3 b4 : Nat) :
    Iter Try.prog 156 [.pointer (some ⟨b1, 0, none⟩), .pointer (some ⟨b2, 0, none⟩), .pointer (some ⟨b3, 0, none⟩), .pointer (some ⟨b4, 0, none⟩)]
      [bk b1 99 [.slice a t.length ca], bk b2 99 [.slice b l.length cb'], bk b3 162 [.func (.func 124) #[] #[]], bk b4 162 [.func (.func 124) #[] #[]]]
      (fun x => rwAt a t x ∧ rwAt b l x) ((mrg rwKey rwKey 0 t 0 l).map (encM a b 2 2)) := by
  refine Iter.intro Try.func156 rfl Try.ntmps156 rfl ?_
  rintro ly x I w ⟨hpa, hpb⟩ hY M0 hI0
  rw [List.length_map]
  generalize hL : mrg rwKey rwKey 0 t 0 l = Lm at *
  repeat (first | refine CX.psA ?_ | refine CX.nil ?_ | refine CQ.thenN ?_ | refine CQ.thenR ?_ | refine CQ.thenX ?_ | refine CQ.blockN ?_ | refine CQ.blockR ?_ | refine CQ.blockX ?_ | refine CQ.blockYA ?_ | refine CC.seq ?_ | refine CC.block ?_ | refine CC.region ?_ | refine CC.skip ?_ | refine CC.ret ?_ | refine CC.exit ?_ | refine CC.condTA ?_ | refine CC.condFA ?_ | refine CC.condDTA ?_ | refine CC.condDFA ?_ | refine CX.storeA ?_ | refine CX.skipA ?_)
  refine CC.loop (X := Nat × Nat × Option Addr × Option Addr × Nat × List Assn)
    (fun s => [(0, .func (.yield ly) #[] #[]), (1, .pointer (some ⟨b1, 0, none⟩)), (2, .pointer (some ⟨b2, 0, none⟩)), (3, .pointer (some ⟨b3, 0, none⟩)), (4, .pointer (some ⟨b4, 0, none⟩))])
    (fun s => [many s.2.2.2.2.2, bk b1 99 [.slice s.2.2.1 (t.length - s.1) (ca - s.1)], bk b2 99 [.slice s.2.2.2.1 (l.length - s.2.1) (cb' - s.2.1)], bk b3 162 [.func (.func 124) #[] #[]], bk b4 162 [.func (.func 124) #[] #[]], exact x])
    (fun s => s.1 ≤ t.length ∧ s.2.1 ≤ l.length ∧ (s.1 < t.length → s.2.2.1 = atP a (s.1 * 2)) ∧ (s.2.1 < l.length → s.2.2.2.1 = atP b (s.2.1 * 2)) ∧ s.2.2.2.2.1 ≤ Lm.length ∧ mrg rwKey rwKey s.1 (t.drop s.1) s.2.1 (l.drop s.2.1) = Lm.drop s.2.2.2.2.1 ∧ I s.2.2.2.2.1 s.2.2.2.2.2)
    (fun s => (t.length - s.1) + (l.length - s.2.1)) (0, 0, a, b, 0, M0) ⟨Nat.zero_le _, Nat.zero_le _, fun h => by
      obtain ⟨g, o, rfl⟩ := rwAt_some hpa (by omega)
      simp [atP_some], fun h => by
      obtain ⟨g, o, rfl⟩ := rwAt_some hpb (by omega)
      simp [atP_some], Nat.zero_le _, by simpa using hL, hI0⟩ ⟨rfl, rfl, rfl, rfl, rfl, trivial⟩ (by simp only [Nat.sub_zero]; repeat (first | exact Sel.nil _ | (apply Sel.cons; (· repeat (first | exact .head _ | apply Pick.tail | apply Upd.tail))))) ?_
  rintro ⟨i, j, sa, sb, k, M⟩ ⟨hi, hj, hsa, hsb, hk, hm, hI⟩
  dsimp only at hi hj hsa hsb hk hm hI ⊢
  by_cases h1 : i < t.length
  · obtain ⟨ga, oa, rfl⟩ := rwAt_some hpa (by omega)
    obtain rfl := hsa h1
    rw [atP_some]
    have eA : t.drop i = t[i] :: t.drop (i + 1) := List.drop_eq_getElem_cons h1
    have nxA : i + 1 < t.length → some (⟨ga, if ca - i = 1 then oa + i * 2 else oa + i * 2 + 1 * 2, none⟩ : Addr) = atP (some ⟨ga, oa, none⟩) ((i + 1) * 2) := fun h => by
      rw [atP_some, if_neg (by omega)]; congr 2; omega
    by_cases h2 : j < l.length
    · obtain ⟨gb, ob', rfl⟩ := rwAt_some hpb (by omega)
      obtain rfl := hsb h2
      rw [atP_some]
      have eB : l.drop j = l[j] :: l.drop (j + 1) := List.drop_eq_getElem_cons h2
      have nxB : j + 1 < l.length → some (⟨gb, if cb' - j = 1 then ob' + j * 2 else ob' + j * 2 + 1 * 2, none⟩ : Addr) = atP (some ⟨gb, ob', none⟩) ((j + 1) * 2) := fun h => by
        rw [atP_some, if_neg (by omega)]; congr 2; omega
      rw [eA, eB, mrg, ← eA, ← eB] at hm
      by_cases h3 : klt (rwKey t[i]) (rwKey l[j]) = true
      · rw [if_pos h3] at hm
        obtain ⟨hk1, hk2, hm2⟩ := drop_cons hm
        have hz : cmpZ (t[i]).key (l[j]).key = -1 := if_pos h3
        repeat (first | refine CX.psA ?_ | refine CX.nil ?_ | refine CQ.thenN ?_ | refine CQ.thenR ?_ | refine CQ.thenX ?_ | refine CQ.blockN ?_ | refine CQ.blockR ?_ | refine CQ.blockX ?_ | refine CQ.blockYA ?_ | refine CC.seq ?_ | refine CC.block ?_ | refine CC.region ?_ | refine CC.skip ?_ | refine CC.ret ?_ | refine CC.exit ?_ | refine CC.condTA ?_ | refine CC.condFA ?_ | refine CC.condDTA ?_ | refine CC.condDFA ?_ | refine CX.storeA ?_ | refine CX.skipA ?_)
        refine CC.draw [(0, 1), (1, 1), (2, 0), (3, 1), (5, 1), (6, 1), (7, 0), (8, 1), (4, 2), (9, 2), (10, 2), (11, 0)] mixed rfl (by kernel_rfl) (by kernel_rfl) [bk b1 99 [.slice (some ⟨ga, oa + i * 2, none⟩) (t.length - i) (ca - i)], bk b2 99 [.slice (some ⟨gb, ob' + j * 2, none⟩) (l.length - j) (cb' - j)], bk b3 162 [.func (.func 124) #[] #[]], bk b4 162 [.func (.func 124) #[] #[]], exact x] ?_
        repeat (first | refine CH.pureA ?_ | refine CH.readA ?_ | refine CH.skA ?_ | refine CH.skCA ?_ | refine CH.nil ?_)
        refine CH.pure rfl (PS.indexAddr (j := 0) rfl rfl rfl rfl (by omega)) ?_
        (apply CH.read; (· rfl); (· apply PS.loadG (vs := (t[i]).cells); (· rfl); (· rfl); (· exact hpa.cells0 (by repeat (first | exact .head _ | apply Pick.tail | apply Upd.tail)) h1); (· rfl)); (· repeat (first | exact Sel.nil _ | (apply Sel.cons; (· repeat (first | exact .head _ | apply Pick.tail | apply Upd.tail))))))
        repeat (first | refine CH.pureA ?_ | refine CH.readA ?_ | refine CH.skA ?_ | refine CH.skCA ?_ | refine CH.nil ?_)
        refine CH.pure rfl (PS.indexAddr (j := 0) rfl rfl rfl rfl (by omega)) ?_
        (apply CH.read; (· rfl); (· apply PS.loadG (vs := (l[j]).cells); (· rfl); (· rfl); (· exact hpb.cells0 (by repeat (first | exact .head _ | apply Pick.tail | apply Upd.tail)) h2); (· rfl)); (· repeat (first | exact Sel.nil _ | (apply Sel.cons; (· repeat (first | exact .head _ | apply Pick.tail | apply Upd.tail))))))
        refine CH.chain rfl fun K hK => ?_
        refine CX.callF (k1R_c t[i]) ?_
        rintro _ _ ⟨rfl, rfl⟩
        (refine CX.nil ?_; refine CQ.thenK ?_; apply hK; (· repeat (first | exact Sel.nil _ | (apply Sel.cons; (· repeat (first | exact .head _ | apply Pick.tail | apply Upd.tail))))); clear hK K)
        refine CH.chain rfl fun K hK => ?_
        refine CX.callF (k1R_c l[j]) ?_
        rintro _ _ ⟨rfl, rfl⟩
        (refine CX.nil ?_; refine CQ.thenK ?_; apply hK; (· repeat (first | exact Sel.nil _ | (apply Sel.cons; (· repeat (first | exact .head _ | apply Pick.tail | apply Upd.tail))))); clear hK K)
        refine CH.chain rfl fun K hK => ?_
        refine CX.callA (cmp_c (t[i]).key (l[j]).key) ?_
        rw [hz]
        rintro _ _ ⟨rfl, rfl⟩
        (refine CX.nil ?_; refine CQ.thenK ?_; apply hK; (· repeat (first | exact Sel.nil _ | (apply Sel.cons; (· repeat (first | exact .head _ | apply Pick.tail | apply Upd.tail))))); clear hK K)
        repeat (first | refine CH.pureA ?_ | refine CH.readA ?_ | refine CH.skA ?_ | refine CH.skCA ?_ | refine CH.nil ?_)
        repeat (first | refine CX.psA ?_ | refine CX.nil ?_ | refine CQ.thenN ?_ | refine CQ.thenR ?_ | refine CQ.thenX ?_ | refine CQ.blockN ?_ | refine CQ.blockR ?_ | refine CQ.blockX ?_ | refine CQ.blockYA ?_ | refine CC.seq ?_ | refine CC.block ?_ | refine CC.region ?_ | refine CC.skip ?_ | refine CC.ret ?_ | refine CC.exit ?_ | refine CC.condTA ?_ | refine CC.condFA ?_ | refine CC.condDTA ?_ | refine CC.condDFA ?_ | refine CX.storeA ?_ | refine CX.skipA ?_)
        refine CC.draw [(0, 1), (1, 0), (2, 1), (3, 0), (4, 0), (5, 3)] mixed rfl (by kernel_rfl) (by kernel_rfl) [bk b1 99 [.slice (some ⟨ga, oa + i * 2, none⟩) (t.length - i) (ca - i)]] ?_
        repeat (first | refine CH.pureA ?_ | refine CH.readA ?_ | refine CH.skA ?_ | refine CH.skCA ?_ | refine CH.nil ?_)
        refine CH.pure rfl (PS.indexAddr (j := 0) rfl rfl rfl rfl (by omega)) ?_
        repeat (first | refine CH.pureA ?_ | refine CH.readA ?_ | refine CH.skA ?_ | refine CH.skCA ?_ | refine CH.nil ?_)
        refine CH.pure rfl (PS.sliceLo (l := 1) rfl rfl rfl rfl (by omega) (by omega)) ?_
        repeat (first | refine CH.pureA ?_ | refine CH.readA ?_ | refine CH.skA ?_ | refine CH.skCA ?_ | refine CH.nil ?_)
        refine CH.tail rfl rfl fun K hK => ?_
        refine CX.storeA ?_
        (refine CX.nil ?_; refine CQ.thenK ?_; apply hK; clear hK K)
        repeat (first | refine CH.pureA ?_ | refine CH.readA ?_ | refine CH.skA ?_ | refine CH.skCA ?_ | refine CH.nil ?_)
        repeat (first | refine CX.psA ?_ | refine CX.nil ?_ | refine CQ.thenN ?_ | refine CQ.thenX ?_ | refine CQ.blockN ?_ | refine CQ.blockX ?_ | refine CQ.blockYA ?_ | refine CC.seq ?_ | refine CC.block ?_ | refine CC.skip ?_ | refine CC.exit ?_ | refine CC.condTA ?_ | refine CC.condFA ?_ | refine CC.condDTA ?_ | refine CC.condDFA ?_ | refine CX.storeA ?_ | refine CX.skipA ?_)
        refine CC.region ?_
        repeat (first | refine CX.psA ?_ | refine CX.nil ?_ | refine CQ.thenN ?_ | refine CQ.thenX ?_ | refine CQ.blockN ?_ | refine CQ.blockX ?_ | refine CQ.blockYA ?_ | refine CC.seq ?_ | refine CC.block ?_ | refine CC.skip ?_ | refine CC.exit ?_ | refine CC.condTA ?_ | refine CC.condFA ?_ | refine CC.condDTA ?_ | refine CC.condDFA ?_ | refine CX.storeA ?_ | refine CX.skipA ?_)
        refine CC.regionI ?_
        refine CXI.ps ?_
        refine CXI.ps ?_
        refine CXI.ps ?_
        refine CXI.yieldM hY (k := k) (M := M) (vs := [.pointer (some ⟨ga, oa + i * 2, none⟩), .pointer none]) (by rw [List.getElem?_map, hk2]; simp [encM, atP_some]) hI ?_
        intro M' hI'
        refine CXI.ps ?_
        refine CXI.nil ?_
        repeat (first | refine CX.psA ?_ | refine CX.nil ?_ | refine CQ.thenN ?_ | refine CQ.thenX ?_ | refine CQ.blockN ?_ | refine CQ.blockX ?_ | refine CQ.blockYA ?_ | refine CC.seq ?_ | refine CC.block ?_ | refine CC.skip ?_ | refine CC.exit ?_ | refine CC.condTA ?_ | refine CC.condFA ?_ | refine CC.condDTA ?_ | refine CC.condDFA ?_ | refine CX.storeA ?_ | refine CX.skipA ?_)
        exact CQ.round (x := (i, j, some ⟨ga, oa + i * 2, none⟩, some ⟨gb, ob' + j * 2, none⟩, k, M)) (i + 1, j, some ⟨ga, if ca - i = 1 then oa + i * 2 else oa + i * 2 + 1 * 2, none⟩, some ⟨gb, ob' + j * 2, none⟩, k + 1, M') ⟨by dsimp only; omega, by dsimp only; omega, nxA, fun _ => by rw [atP_some], by dsimp only; omega, hm2, hI'⟩ (by dsimp only; omega) ⟨rfl, rfl, rfl, rfl, rfl, trivial⟩ (by (try simp only [Nat.sub_sub]); repeat (first | exact Sel.nil _ | (apply Sel.cons; (· repeat (first | exact .head _ | apply Pick.tail | apply Upd.tail)))))
      · rw [if_neg h3] at hm
        by_cases h4 : rwKey t[i] = rwKey l[j]
        · rw [if_pos h4] at hm
          obtain ⟨hk1, hk2, hm2⟩ := drop_cons hm
          have hz : cmpZ (t[i]).key (l[j]).key = 0 := (if_neg h3).trans (if_pos h4)
          repeat (first | refine CX.psA ?_ | refine CX.nil ?_ | refine CQ.thenN ?_ | refine CQ.thenR ?_ | refine CQ.thenX ?_ | refine CQ.blockN ?_ | refine CQ.blockR ?_ | refine CQ.blockX ?_ | refine CQ.blockYA ?_ | refine CC.seq ?_ | refine CC.block ?_ | refine CC.region ?_ | refine CC.skip ?_ | refine CC.ret ?_ | refine CC.exit ?_ | refine CC.condTA ?_ | refine CC.condFA ?_ | refine CC.condDTA ?_ | refine CC.condDFA ?_ | refine CX.storeA ?_ | refine CX.skipA ?_)
          refine CC.draw [(0, 1), (1, 1), (2, 0), (3, 1), (5, 1), (6, 1), (7, 0), (8, 1), (4, 2), (9, 2), (10, 2), (11, 0)] mixed rfl (by kernel_rfl) (by kernel_rfl) [bk b1 99 [.slice (some ⟨ga, oa + i * 2, none⟩) (t.length - i) (ca - i)], bk b2 99 [.slice (some ⟨gb, ob' + j * 2, none⟩) (l.length - j) (cb' - j)], bk b3 162 [.func (.func 124) #[] #[]], bk b4 162 [.func (.func 124) #[] #[]], exact x] ?_
          repeat (first | refine CH.pureA ?_ | refine CH.readA ?_ | refine CH.skA ?_ | refine CH.skCA ?_ | refine CH.nil ?_)
          refine CH.pure rfl (PS.indexAddr (j := 0) rfl rfl rfl rfl (by omega)) ?_
          (apply CH.read; (· rfl); (· apply PS.loadG (vs := (t[i]).cells); (· rfl); (· rfl); (· exact hpa.cells0 (by repeat (first | exact .head _ | apply Pick.tail | apply Upd.tail)) h1); (· rfl)); (· repeat (first | exact Sel.nil _ | (apply Sel.cons; (· repeat (first | exact .head _ | apply Pick.tail | apply Upd.tail))))))
          repeat (first | refine CH.pureA ?_ | refine CH.readA ?_ | refine CH.skA ?_ | refine CH.skCA ?_ | refine CH.nil ?_)
          refine CH.pure rfl (PS.indexAddr (j := 0) rfl rfl rfl rfl (by omega)) ?_
          (apply CH.read; (· rfl); (· apply PS.loadG (vs := (l[j]).cells); (· rfl); (· rfl); (· exact hpb.cells0 (by repeat (first | exact .head _ | apply Pick.tail | apply Upd.tail)) h2); (· rfl)); (· repeat (first | exact Sel.nil _ | (apply Sel.cons; (· repeat (first | exact .head _ | apply Pick.tail | apply Upd.tail))))))
          refine CH.chain rfl fun K hK => ?_
          refine CX.callF (k1R_c t[i]) ?_
          rintro _ _ ⟨rfl, rfl⟩
          (refine CX.nil ?_; refine CQ.thenK ?_; apply hK; (· repeat (first | exact Sel.nil _ | (apply Sel.cons; (· repeat (first | exact .head _ | apply Pick.tail | apply Upd.tail))))); clear hK K)
          refine CH.chain rfl fun K hK => ?_
          refine CX.callF (k1R_c l[j]) ?_
          rintro _ _ ⟨rfl, rfl⟩
          (refine CX.nil ?_; refine CQ.thenK ?_; apply hK; (· repeat (first | exact Sel.nil _ | (apply Sel.cons; (· repeat (first | exact .head _ | apply Pick.tail | apply Upd.tail))))); clear hK K)
          refine CH.chain rfl fun K hK => ?_
          refine CX.callA (cmp_c (t[i]).key (l[j]).key) ?_
          rw [hz]
          rintro _ _ ⟨rfl, rfl⟩
          (refine CX.nil ?_; refine CQ.thenK ?_; apply hK; (· repeat (first | exact Sel.nil _ | (apply Sel.cons; (· repeat (first | exact .head _ | apply Pick.tail | apply Upd.tail))))); clear hK K)
          repeat (first | refine CH.pureA ?_ | refine CH.readA ?_ | refine CH.skA ?_ | refine CH.skCA ?_ | refine CH.nil ?_)
          repeat (first | refine CX.psA ?_ | refine CX.nil ?_ | refine CQ.thenN ?_ | refine CQ.thenR ?_ | refine CQ.thenX ?_ | refine CQ.blockN ?_ | refine CQ.blockR ?_ | refine CQ.blockX ?_ | refine CQ.blockYA ?_ | refine CC.seq ?_ | refine CC.block ?_ | refine CC.region ?_ | refine CC.skip ?_ | refine CC.ret ?_ | refine CC.exit ?_ | refine CC.condTA ?_ | refine CC.condFA ?_ | refine CC.condDTA ?_ | refine CC.condDFA ?_ | refine CX.storeA ?_ | refine CX.skipA ?_)
          refine CC.draw [(0, 1), (1, 0), (2, 1), (3, 0), (4, 0), (5, 3)] mixed rfl (by kernel_rfl) (by kernel_rfl) [bk b1 99 [.slice (some ⟨ga, oa + i * 2, none⟩) (t.length - i) (ca - i)]] ?_
          repeat (first | refine CH.pureA ?_ | refine CH.readA ?_ | refine CH.skA ?_ | refine CH.skCA ?_ | refine CH.nil ?_)
          refine CH.pure rfl (PS.indexAddr (j := 0) rfl rfl rfl rfl (by omega)) ?_
          repeat (first | refine CH.pureA ?_ | refine CH.readA ?_ | refine CH.skA ?_ | refine CH.skCA ?_ | refine CH.nil ?_)
          refine CH.pure rfl (PS.sliceLo (l := 1) rfl rfl rfl rfl (by omega) (by omega)) ?_
          repeat (first | refine CH.pureA ?_ | refine CH.readA ?_ | refine CH.skA ?_ | refine CH.skCA ?_ | refine CH.nil ?_)
          refine CH.tail rfl rfl fun K hK => ?_
          refine CX.storeA ?_
          (refine CX.nil ?_; refine CQ.thenK ?_; apply hK; clear hK K)
          repeat (first | refine CH.pureA ?_ | refine CH.readA ?_ | refine CH.skA ?_ | refine CH.skCA ?_ | refine CH.nil ?_)
          repeat (first | refine CX.psA ?_ | refine CX.nil ?_ | refine CQ.thenN ?_ | refine CQ.thenX ?_ | refine CQ.blockN ?_ | refine CQ.blockX ?_ | refine CQ.blockYA ?_ | refine CC.seq ?_ | refine CC.block ?_ | refine CC.skip ?_ | refine CC.exit ?_ | refine CC.condTA ?_ | refine CC.condFA ?_ | refine CC.condDTA ?_ | refine CC.condDFA ?_ | refine CX.storeA ?_ | refine CX.skipA ?_)
          refine CC.region ?_
          repeat (first | refine CX.psA ?_ | refine CX.nil ?_ | refine CQ.thenN ?_ | refine CQ.thenX ?_ | refine CQ.blockN ?_ | refine CQ.blockX ?_ | refine CQ.blockYA ?_ | refine CC.seq ?_ | refine CC.block ?_ | refine CC.skip ?_ | refine CC.exit ?_ | refine CC.condTA ?_ | refine CC.condFA ?_ | refine CC.condDTA ?_ | refine CC.condDFA ?_ | refine CX.storeA ?_ | refine CX.skipA ?_)
          refine CC.draw [(0, 1), (1, 0), (2, 1), (3, 0), (4, 0), (5, 3)] mixed rfl (by kernel_rfl) (by kernel_rfl) [bk b2 99 [.slice (some ⟨gb, ob' + j * 2, none⟩) (l.length - j) (cb' - j)]] ?_
          repeat (first | refine CH.pureA ?_ | refine CH.readA ?_ | refine CH.skA ?_ | refine CH.skCA ?_ | refine CH.nil ?_)
          refine CH.pure rfl (PS.indexAddr (j := 0) rfl rfl rfl rfl (by omega)) ?_
          repeat (first | refine CH.pureA ?_ | refine CH.readA ?_ | refine CH.skA ?_ | refine CH.skCA ?_ | refine CH.nil ?_)
          refine CH.pure rfl (PS.sliceLo (l := 1) rfl rfl rfl rfl (by omega) (by omega)) ?_
          repeat (first | refine CH.pureA ?_ | refine CH.readA ?_ | refine CH.skA ?_ | refine CH.skCA ?_ | refine CH.nil ?_)
          refine CH.tail rfl rfl fun K hK => ?_
          refine CX.storeA ?_
          (refine CX.nil ?_; refine CQ.thenK ?_; apply hK; clear hK K)
          repeat (first | refine CH.pureA ?_ | refine CH.readA ?_ | refine CH.skA ?_ | refine CH.skCA ?_ | refine CH.nil ?_)
          repeat (first | refine CX.psA ?_ | refine CX.nil ?_ | refine CQ.thenN ?_ | refine CQ.thenX ?_ | refine CQ.blockN ?_ | refine CQ.blockX ?_ | refine CQ.blockYA ?_ | refine CC.seq ?_ | refine CC.block ?_ | refine CC.skip ?_ | refine CC.exit ?_ | refine CC.condTA ?_ | refine CC.condFA ?_ | refine CC.condDTA ?_ | refine CC.condDFA ?_ | refine CX.storeA ?_ | refine CX.skipA ?_)
          refine CC.regionI ?_
          refine CXI.ps ?_
          refine CXI.ps ?_
          refine CXI.ps ?_
          refine CXI.yieldM hY (k := k) (M := M) (vs := [.pointer (some ⟨ga, oa + i * 2, none⟩), .pointer (some ⟨gb, ob' + j * 2, none⟩)]) (by rw [List.getElem?_map, hk2]; simp [encM, atP_some]) hI ?_
          intro M' hI'
          refine CXI.ps ?_
          refine CXI.nil ?_
          repeat (first | refine CX.psA ?_ | refine CX.nil ?_ | refine CQ.thenN ?_ | refine CQ.thenX ?_ | refine CQ.blockN ?_ | refine CQ.blockX ?_ | refine CQ.blockYA ?_ | refine CC.seq ?_ | refine CC.block ?_ | refine CC.skip ?_ | refine CC.exit ?_ | refine CC.condTA ?_ | refine CC.condFA ?_ | refine CC.condDTA ?_ | refine CC.condDFA ?_ | refine CX.storeA ?_ | refine CX.skipA ?_)
          exact CQ.round (x := (i, j, some ⟨ga, oa + i * 2, none⟩, some ⟨gb, ob' + j * 2, none⟩, k, M)) (i + 1, j + 1, some ⟨ga, if ca - i = 1 then oa + i * 2 else oa + i * 2 + 1 * 2, none⟩, some ⟨gb, if cb' - j = 1 then ob' + j * 2 else ob' + j * 2 + 1 * 2, none⟩, k + 1, M') ⟨by dsimp only; omega, by dsimp only; omega, nxA, nxB, by dsimp only; omega, hm2, hI'⟩ (by dsimp only; omega) ⟨rfl, rfl, rfl, rfl, rfl, trivial⟩ (by (try simp only [Nat.sub_sub]); repeat (first | exact Sel.nil _ | (apply Sel.cons; (· repeat (first | exact .head _ | apply Pick.tail | apply Upd.tail)))))
        · rw [if_neg h4] at hm
          obtain ⟨hk1, hk2, hm2⟩ := drop_cons hm
          have hz : cmpZ (t[i]).key (l[j]).key = 1 := (if_neg h3).trans (if_neg h4)
          repeat (first | refine CX.psA ?_ | refine CX.nil ?_ | refine CQ.thenN ?_ | refine CQ.thenR ?_ | refine CQ.thenX ?_ | refine CQ.blockN ?_ | refine CQ.blockR ?_ | refine CQ.blockX ?_ | refine CQ.blockYA ?_ | refine CC.seq ?_ | refine CC.block ?_ | refine CC.region ?_ | refine CC.skip ?_ | refine CC.ret ?_ | refine CC.exit ?_ | refine CC.condTA ?_ | refine CC.condFA ?_ | refine CC.condDTA ?_ | refine CC.condDFA ?_ | refine CX.storeA ?_ | refine CX.skipA ?_)
          refine CC.draw [(0, 1), (1, 1), (2, 0), (3, 1), (5, 1), (6, 1), (7, 0), (8, 1), (4, 2), (9, 2), (10, 2), (11, 0)] mixed rfl (by kernel_rfl) (by kernel_rfl) [bk b1 99 [.slice (some ⟨ga, oa + i * 2, none⟩) (t.length - i) (ca - i)], bk b2 99 [.slice (some ⟨gb, ob' + j * 2, none⟩) (l.length - j) (cb' - j)], bk b3 162 [.func (.func 124) #[] #[]], bk b4 162 [.func (.func 124) #[] #[]], exact x] ?_
          repeat (first | refine CH.pureA ?_ | refine CH.readA ?_ | refine CH.skA ?_ | refine CH.skCA ?_ | refine CH.nil ?_)
          refine CH.pure rfl (PS.indexAddr (j := 0) rfl rfl rfl rfl (by omega)) ?_
          (apply CH.read; (· rfl); (· apply PS.loadG (vs := (t[i]).cells); (· rfl); (· rfl); (· exact hpa.cells0 (by repeat (first | exact .head _ | apply Pick.tail | apply Upd.tail)) h1); (· rfl)); (· repeat (first | exact Sel.nil _ | (apply Sel.cons; (· repeat (first | exact .head _ | apply Pick.tail | apply Upd.tail))))))
          repeat (first | refine CH.pureA ?_ | refine CH.readA ?_ | refine CH.skA ?_ | refine CH.skCA ?_ | refine CH.nil ?_)
          refine CH.pure rfl (PS.indexAddr (j := 0) rfl rfl rfl rfl (by omega)) ?_
          (apply CH.read; (· rfl); (· apply PS.loadG (vs := (l[j]).cells); (· rfl); (· rfl); (· exact hpb.cells0 (by repeat (first | exact .head _ | apply Pick.tail | apply Upd.tail)) h2); (· rfl)); (· repeat (first | exact Sel.nil _ | (apply Sel.cons; (· repeat (first | exact .head _ | apply Pick.tail | apply Upd.tail))))))
          refine CH.chain rfl fun K hK => ?_
          refine CX.callF (k1R_c t[i]) ?_
          rintro _ _ ⟨rfl, rfl⟩
          (refine CX.nil ?_; refine CQ.thenK ?_; apply hK; (· repeat (first | exact Sel.nil _ | (apply Sel.cons; (· repeat (first | exact .head _ | apply Pick.tail | apply Upd.tail))))); clear hK K)
          refine CH.chain rfl fun K hK => ?_
          refine CX.callF (k1R_c l[j]) ?_
          rintro _ _ ⟨rfl, rfl⟩
          (refine CX.nil ?_; refine CQ.thenK ?_; apply hK; (· repeat (first | exact Sel.nil _ | (apply Sel.cons; (· repeat (first | exact .head _ | apply Pick.tail | apply Upd.tail))))); clear hK K)
          refine CH.chain rfl fun K hK => ?_
          refine CX.callA (cmp_c (t[i]).key (l[j]).key) ?_
          rw [hz]
          rintro _ _ ⟨rfl, rfl⟩
          (refine CX.nil ?_; refine CQ.thenK ?_; apply hK; (· repeat (first | exact Sel.nil _ | (apply Sel.cons; (· repeat (first | exact .head _ | apply Pick.tail | apply Upd.tail))))); clear hK K)
          repeat (first | refine CH.pureA ?_ | refine CH.readA ?_ | refine CH.skA ?_ | refine CH.skCA ?_ | refine CH.nil ?_)
          repeat (first | refine CX.psA ?_ | refine CX.nil ?_ | refine CQ.thenN ?_ | refine CQ.thenR ?_ | refine CQ.thenX ?_ | refine CQ.blockN ?_ | refine CQ.blockR ?_ | refine CQ.blockX ?_ | refine CQ.blockYA ?_ | refine CC.seq ?_ | refine CC.block ?_ | refine CC.region ?_ | refine CC.skip ?_ | refine CC.ret ?_ | refine CC.exit ?_ | refine CC.condTA ?_ | refine CC.condFA ?_ | refine CC.condDTA ?_ | refine CC.condDFA ?_ | refine CX.storeA ?_ | refine CX.skipA ?_)
          refine CC.draw [(0, 1), (1, 0), (2, 1), (3, 0), (4, 0), (5, 3)] mixed rfl (by kernel_rfl) (by kernel_rfl) [bk b2 99 [.slice (some ⟨gb, ob' + j * 2, none⟩) (l.length - j) (cb' - j)]] ?_
          repeat (first | refine CH.pureA ?_ | refine CH.readA ?_ | refine CH.skA ?_ | refine CH.skCA ?_ | refine CH.nil ?_)
          refine CH.pure rfl (PS.indexAddr (j := 0) rfl rfl rfl rfl (by omega)) ?_
          repeat (first | refine CH.pureA ?_ | refine CH.readA ?_ | refine CH.skA ?_ | refine CH.skCA ?_ | refine CH.nil ?_)
          refine CH.pure rfl (PS.sliceLo (l := 1) rfl rfl rfl rfl (by omega) (by omega)) ?_
          repeat (first | refine CH.pureA ?_ | refine CH.readA ?_ | refine CH.skA ?_ | refine CH.skCA ?_ | refine CH.nil ?_)
          refine CH.tail rfl rfl fun K hK => ?_
          refine CX.storeA ?_
          (refine CX.nil ?_; refine CQ.thenK ?_; apply hK; clear hK K)
          repeat (first | refine CH.pureA ?_ | refine CH.readA ?_ | refine CH.skA ?_ | refine CH.skCA ?_ | refine CH.nil ?_)
          repeat (first | refine CX.psA ?_ | refine CX.nil ?_ | refine CQ.thenN ?_ | refine CQ.thenX ?_ | refine CQ.blockN ?_ | refine CQ.blockX ?_ | refine CQ.blockYA ?_ | refine CC.seq ?_ | refine CC.block ?_ | refine CC.skip ?_ | refine CC.exit ?_ | refine CC.condTA ?_ | refine CC.condFA ?_ | refine CC.condDTA ?_ | refine CC.condDFA ?_ | refine CX.storeA ?_ | refine CX.skipA ?_)
          refine CC.regionI ?_
          refine CXI.ps ?_
          refine CXI.ps ?_
          refine CXI.ps ?_
          refine CXI.yieldM hY (k := k) (M := M) (vs := [.pointer none, .pointer (some ⟨gb, ob' + j * 2, none⟩)]) (by rw [List.getElem?_map, hk2]; simp [encM, atP_some]) hI ?_
          intro M' hI'
          refine CXI.ps ?_
          refine CXI.nil ?_
          repeat (first | refine CX.psA ?_ | refine CX.nil ?_ | refine CQ.thenN ?_ | refine CQ.thenX ?_ | refine CQ.blockN ?_ | refine CQ.blockX ?_ | refine CQ.blockYA ?_ | refine CC.seq ?_ | refine CC.block ?_ | refine CC.skip ?_ | refine CC.exit ?_ | refine CC.condTA ?_ | refine CC.condFA ?_ | refine CC.condDTA ?_ | refine CC.condDFA ?_ | refine CX.storeA ?_ | refine CX.skipA ?_)
          exact CQ.round (x := (i, j, some ⟨ga, oa + i * 2, none⟩, some ⟨gb, ob' + j * 2, none⟩, k, M)) (i, j + 1, some ⟨ga, oa + i * 2, none⟩, some ⟨gb, if cb' - j = 1 then ob' + j * 2 else ob' + j * 2 + 1 * 2, none⟩, k + 1, M') ⟨by dsimp only; omega, by dsimp only; omega, (fun _ => by rw [atP_some]), nxB, by dsimp only; omega, hm2, hI'⟩ (by dsimp only; omega) ⟨rfl, rfl, rfl, rfl, rfl, trivial⟩ (by (try simp only [Nat.sub_sub]); repeat (first | exact Sel.nil _ | (apply Sel.cons; (· repeat (first | exact .head _ | apply Pick.tail | apply Upd.tail)))))
    · obtain rfl : j = l.length := by omega
      rw [eA, List.drop_length, mrg] at hm
      obtain ⟨hk1, hk2, hm2⟩ := drop_cons hm
      repeat (first | refine CX.psA ?_ | refine CX.nil ?_ | refine CQ.thenN ?_ | refine CQ.thenR ?_ | refine CQ.thenX ?_ | refine CQ.blockN ?_ | refine CQ.blockR ?_ | refine CQ.blockX ?_ | refine CQ.blockYA ?_ | refine CC.seq ?_ | refine CC.block ?_ | refine CC.region ?_ | refine CC.skip ?_ | refine CC.ret ?_ | refine CC.exit ?_ | refine CC.condTA ?_ | refine CC.condFA ?_ | refine CC.condDTA ?_ | refine CC.condDFA ?_ | refine CX.storeA ?_ | refine CX.skipA ?_)
      refine CC.draw [(0, 1), (1, 0), (2, 1), (3, 0), (4, 0), (5, 3)] mixed rfl (by kernel_rfl) (by kernel_rfl) [bk b1 99 [.slice (some ⟨ga, oa + i * 2, none⟩) (t.length - i) (ca - i)]] ?_
      repeat (first | refine CH.pureA ?_ | refine CH.readA ?_ | refine CH.skA ?_ | refine CH.skCA ?_ | refine CH.nil ?_)
      refine CH.pure rfl (PS.indexAddr (j := 0) rfl rfl rfl rfl (by omega)) ?_
      repeat (first | refine CH.pureA ?_ | refine CH.readA ?_ | refine CH.skA ?_ | refine CH.skCA ?_ | refine CH.nil ?_)
      refine CH.pure rfl (PS.sliceLo (l := 1) rfl rfl rfl rfl (by omega) (by omega)) ?_
      repeat (first | refine CH.pureA ?_ | refine CH.readA ?_ | refine CH.skA ?_ | refine CH.skCA ?_ | refine CH.nil ?_)
      refine CH.tail rfl rfl fun K hK => ?_
      refine CX.storeA ?_
      (refine CX.nil ?_; refine CQ.thenK ?_; apply hK; clear hK K)
      repeat (first | refine CH.pureA ?_ | refine CH.readA ?_ | refine CH.skA ?_ | refine CH.skCA ?_ | refine CH.nil ?_)
      repeat (first | refine CX.psA ?_ | refine CX.nil ?_ | refine CQ.thenN ?_ | refine CQ.thenX ?_ | refine CQ.blockN ?_ | refine CQ.blockX ?_ | refine CQ.blockYA ?_ | refine CC.seq ?_ | refine CC.block ?_ | refine CC.skip ?_ | refine CC.exit ?_ | refine CC.condTA ?_ | refine CC.condFA ?_ | refine CC.condDTA ?_ | refine CC.condDFA ?_ | refine CX.storeA ?_ | refine CX.skipA ?_)
      refine CC.region ?_
      repeat (first | refine CX.psA ?_ | refine CX.nil ?_ | refine CQ.thenN ?_ | refine CQ.thenX ?_ | refine CQ.blockN ?_ | refine CQ.blockX ?_ | refine CQ.blockYA ?_ | refine CC.seq ?_ | refine CC.block ?_ | refine CC.skip ?_ | refine CC.exit ?_ | refine CC.condTA ?_ | refine CC.condFA ?_ | refine CC.condDTA ?_ | refine CC.condDFA ?_ | refine CX.storeA ?_ | refine CX.skipA ?_)
      refine CC.regionI ?_
      refine CXI.ps ?_
      refine CXI.ps ?_
      refine CXI.ps ?_
      refine CXI.yieldM hY (k := k) (M := M) (vs := [.pointer (some ⟨ga, oa + i * 2, none⟩), .pointer none]) (by rw [List.getElem?_map, hk2]; simp [encM, atP_some]) hI ?_
      intro M' hI'
      refine CXI.ps ?_
      refine CXI.nil ?_
      repeat (first | refine CX.psA ?_ | refine CX.nil ?_ | refine CQ.thenN ?_ | refine CQ.thenX ?_ | refine CQ.blockN ?_ | refine CQ.blockX ?_ | refine CQ.blockYA ?_ | refine CC.seq ?_ | refine CC.block ?_ | refine CC.skip ?_ | refine CC.exit ?_ | refine CC.condTA ?_ | refine CC.condFA ?_ | refine CC.condDTA ?_ | refine CC.condDFA ?_ | refine CX.storeA ?_ | refine CX.skipA ?_)
      exact CQ.round (x := (i, l.length, some ⟨ga, oa + i * 2, none⟩, sb, k, M)) (i + 1, l.length, some ⟨ga, if ca - i = 1 then oa + i * 2 else oa + i * 2 + 1 * 2, none⟩, sb, k + 1, M') ⟨by dsimp only; omega, by dsimp only; omega, nxA, (fun h => by dsimp only at h; omega), by dsimp only; omega, by dsimp only; rw [List.drop_length]; exact hm2, hI'⟩ (by dsimp only; omega) ⟨rfl, rfl, rfl, rfl, rfl, trivial⟩ (by (try simp only [Nat.sub_sub]); repeat (first | exact Sel.nil _ | (apply Sel.cons; (· repeat (first | exact .head _ | apply Pick.tail | apply Upd.tail)))))
  · obtain rfl : i = t.length := by omega
    by_cases h2 : j < l.length
    · obtain ⟨gb, ob', rfl⟩ := rwAt_some hpb (by omega)
      obtain rfl := hsb h2
      rw [atP_some]
      have eB : l.drop j = l[j] :: l.drop (j + 1) := List.drop_eq_getElem_cons h2
      have nxB : j + 1 < l.length → some (⟨gb, if cb' - j = 1 then ob' + j * 2 else ob' + j * 2 + 1 * 2, none⟩ : Addr) = atP (some ⟨gb, ob', none⟩) ((j + 1) * 2) := fun h => by
        rw [atP_some, if_neg (by omega)]; congr 2; omega
      rw [eB, List.drop_length, mrg] at hm
      obtain ⟨hk1, hk2, hm2⟩ := drop_cons hm
      repeat (first | refine CX.psA ?_ | refine CX.nil ?_ | refine CQ.thenN ?_ | refine CQ.thenR ?_ | refine CQ.thenX ?_ | refine CQ.blockN ?_ | refine CQ.blockR ?_ | refine CQ.blockX ?_ | refine CQ.blockYA ?_ | refine CC.seq ?_ | refine CC.block ?_ | refine CC.region ?_ | refine CC.skip ?_ | refine CC.ret ?_ | refine CC.exit ?_ | refine CC.condTA ?_ | refine CC.condFA ?_ | refine CC.condDTA ?_ | refine CC.condDFA ?_ | refine CX.storeA ?_ | refine CX.skipA ?_)
      refine CC.draw [(0, 1), (1, 0), (2, 1), (3, 0), (4, 0), (5, 3)] mixed rfl (by kernel_rfl) (by kernel_rfl) [bk b2 99 [.slice (some ⟨gb, ob' + j * 2, none⟩) (l.length - j) (cb' - j)]] ?_
      repeat (first | refine CH.pureA ?_ | refine CH.readA ?_ | refine CH.skA ?_ | refine CH.skCA ?_ | refine CH.nil ?_)
      refine CH.pure rfl (PS.indexAddr (j := 0) rfl rfl rfl rfl (by omega)) ?_
      repeat (first | refine CH.pureA ?_ | refine CH.readA ?_ | refine CH.skA ?_ | refine CH.skCA ?_ | refine CH.nil ?_)
      refine CH.pure rfl (PS.sliceLo (l := 1) rfl rfl rfl rfl (by omega) (by omega)) ?_
      repeat (first | refine CH.pureA ?_ | refine CH.readA ?_ | refine CH.skA ?_ | refine CH.skCA ?_ | refine CH.nil ?_)
      refine CH.tail rfl rfl fun K hK => ?_
      refine CX.storeA ?_
      (refine CX.nil ?_; refine CQ.thenK ?_; apply hK; clear hK K)
      repeat (first | refine CH.pureA ?_ | refine CH.readA ?_ | refine CH.skA ?_ | refine CH.skCA ?_ | refine CH.nil ?_)
      repeat (first | refine CX.psA ?_ | refine CX.nil ?_ | refine CQ.thenN ?_ | refine CQ.thenX ?_ | refine CQ.blockN ?_ | refine CQ.blockX ?_ | refine CQ.blockYA ?_ | refine CC.seq ?_ | refine CC.block ?_ | refine CC.skip ?_ | refine CC.exit ?_ | refine CC.condTA ?_ | refine CC.condFA ?_ | refine CC.condDTA ?_ | refine CC.condDFA ?_ | refine CX.storeA ?_ | refine CX.skipA ?_)
      refine CC.regionI ?_
      refine CXI.ps ?_
      refine CXI.ps ?_
      refine CXI.ps ?_
      refine CXI.yieldM hY (k := k) (M := M) (vs := [.pointer none, .pointer (some ⟨gb, ob' + j * 2, none⟩)]) (by rw [List.getElem?_map, hk2]; simp [encM, atP_some]) hI ?_
      intro M' hI'
      refine CXI.ps ?_
      refine CXI.nil ?_
      repeat (first | refine CX.psA ?_ | refine CX.nil ?_ | refine CQ.thenN ?_ | refine CQ.thenX ?_ | refine CQ.blockN ?_ | refine CQ.blockX ?_ | refine CQ.blockYA ?_ | refine CC.seq ?_ | refine CC.block ?_ | refine CC.skip ?_ | refine CC.exit ?_ | refine CC.condTA ?_ | refine CC.condFA ?_ | refine CC.condDTA ?_ | refine CC.condDFA ?_ | refine CX.storeA ?_ | refine CX.skipA ?_)
      exact CQ.round (x := (t.length, j, sa, some ⟨gb, ob' + j * 2, none⟩, k, M)) (t.length, j + 1, sa, some ⟨gb, if cb' - j = 1 then ob' + j * 2 else ob' + j * 2 + 1 * 2, none⟩, k + 1, M') ⟨by dsimp only; omega, by dsimp only; omega, (fun h => by dsimp only at h; omega), nxB, by dsimp only; omega, by dsimp only; rw [List.drop_length]; exact hm2, hI'⟩ (by dsimp only; omega) ⟨rfl, rfl, rfl, rfl, rfl, trivial⟩ (by (try simp only [Nat.sub_sub]); repeat (first | exact Sel.nil _ | (apply Sel.cons; (· repeat (first | exact .head _ | apply Pick.tail | apply Upd.tail)))))
    · obtain rfl : j = l.length := by omega
      rw [List.drop_length, List.drop_length, mrg] at hm
      have : Lm.length ≤ k := by
        rcases Nat.lt_or_ge k Lm.length with h | h
        · rw [List.drop_eq_getElem_cons h] at hm; cases hm
        · exact h
      repeat (first | refine CX.psA ?_ | refine CX.nil ?_ | refine CQ.thenN ?_ | refine CQ.thenR ?_ | refine CQ.thenX ?_ | refine CQ.blockN ?_ | refine CQ.blockR ?_ | refine CQ.blockX ?_ | refine CQ.blockYA ?_ | refine CC.seq ?_ | refine CC.block ?_ | refine CC.region ?_ | refine CC.skip ?_ | refine CC.ret ?_ | refine CC.exit ?_ | refine CC.condTA ?_ | refine CC.condFA ?_ | refine CC.condDTA ?_ | refine CC.condDFA ?_ | refine CX.storeA ?_ | refine CX.skipA ?_)
      exact CQ.endIter rfl hI (by omega)
end Go.Proofs.Ytlckhaodecdbbaa
