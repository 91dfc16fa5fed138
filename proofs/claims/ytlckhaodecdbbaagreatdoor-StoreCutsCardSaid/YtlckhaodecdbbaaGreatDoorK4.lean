/- Part K4: Bx, Mg, Ap, L8, Bw, Bf, L8w, He, Sd, Jm, Jp. -/
import Derived.Test.YtlckhaodecdbbaaGreatDoorK3
import Derived.Test.YtlckhaodecdbbaaGreatDoorK2
set_option linter.unusedVariables false
set_option linter.unusedSimpArgs false
/-! Are changes, or rows, the same (ref 00), in the program. Printed by bx.py (wip). -/
namespace Go.Proofs.YtlckhaodecdbbaaGreatDoor
open Go.Cx
attribute [local irreducible] Go.Cx.CX Go.Cx.CC Go.Cx.CQ Go.Cx.PS Go.Cx.Ctr Go.Cx.CH
set_option maxRecDepth 10000
theorem eqmR_c (l k : List RwV) (hl : l.length ≤ 9223372036854775806) (a b : Option Addr) (ca cb' : Nat) (hkl : k.length ≤ 9223372036854775806) : Ctr Tryz.prog 16 [.slice a l.length ca, .slice b k.length cb'] [] (fun x => rwAt a l x ∧ rwAt b k x) (fun v M => v = .bool (decide (l.map RwV.m = k.map RwV.m)) ∧ M = []) := by
  refine Ctr.intro Tryz.func16 rfl Tryz.ntmps16 rfl fun x w hp => ?_
  by_cases hn : l.length = k.length
  · refine wk ?_
    refine CC.loop (X := Nat) (fun i => [(5, .int .i64 (i : Int)), (0, .slice a l.length ca), (1, .slice b k.length cb')]) (fun i => [exact x]) (fun i => i ≤ l.length ∧ ∀ j (h : j < l.length) (h' : j < k.length), j < i → (l[j]).m = (k[j]).m) (fun i => l.length - i) 0 ⟨Nat.zero_le _, fun j h h' h0 => by omega⟩ ⟨rfl, rfl, rfl, trivial⟩ (by exact selA) ?_
    rintro i ⟨hi, hpre⟩
    by_cases h1 : i < l.length
    · have h2 : i < k.length := by omega
      obtain ⟨g, off, rfl⟩ := rwAt_some hp.1 (by omega)
      obtain ⟨g', off', rfl⟩ := rwAt_some hp.2 (by omega)
      have hr := hp.1.2 l[i] (List.getElem_mem h1)
      have hr' := hp.2.2 k[i] (List.getElem_mem h2)
      have eat : l.map RwV.m = k.map RwV.m → ∀ j (h : j < l.length) (h' : j < k.length), (l[j]).m = (k[j]).m := fun e j h h' => by
        have := congrArg (fun z => z[j]?) e
        simpa [h, h'] using this
      by_cases hk : (l[i]).key = (k[i]).key
      rotate_left
      · have hne : (l[i]).m ≠ (k[i]).m := fun e => hk (congrArg Prod.fst e)
        refine wk ?_
        refine CC.draw [(0, 0), (1, 0), (2, 0), (3, 0), (4, 1), (5, 0), (6, 0), (7, 0), (8, 0), (9, 1), (10, 0), (11, 0), (12, 0), (13, 0), (14, 0), (15, 0), (16, 1), (17, 0), (18, 0), (19, 0), (20, 0), (21, 1), (22, 2), (23, 0), (24, 0)] mixed rfl (by kernel_rfl) (by kernel_rfl) [exact x] ?_
        refine hwk ?_
        refine CH.pure rfl (PS.indexAddr (j := i) rfl rfl rfl rfl (by omega)) ?_
        refine hwk ?_
        (apply CH.read; (· rfl); (· apply PS.load (v := sv (l[i]).key); (· rfl); (· rfl); (· exact hp.1.cell (by first | exact pickA | exact updA) h1 0 rfl)); (· exact selA))
        refine hwk ?_
        refine CH.pure rfl (PS.indexAddr (j := i) rfl rfl rfl rfl (by omega)) ?_
        refine hwk ?_
        (apply CH.read; (· rfl); (· apply PS.load (v := sv (k[i]).key); (· rfl); (· rfl); (· exact hp.2.cell (by first | exact pickA | exact updA) h2 0 rfl)); (· exact selA))
        refine CH.pure rfl ((PS.neqStr (a := (l[i]).key) (b := (k[i]).key) rfl rfl rfl).toT hk) ?_
        refine hwk ?_
        refine wk ?_
        ((apply CQ.end1; (· rfl); (· exact .tmp rfl)); (· exact ⟨by rw [decide_eq_false fun e => hne (eat e i h1 h2)], rfl⟩); (· exact selA))
      by_cases hb : (l[i]).s.b = (k[i]).s.b
      rotate_left
      · have hne : (l[i]).m ≠ (k[i]).m := fun e => hb (congrArg Prod.snd e)
        refine wk ?_
        refine CC.draw [(0, 0), (1, 0), (2, 0), (3, 0), (4, 1), (5, 0), (6, 0), (7, 0), (8, 0), (9, 1), (10, 0), (11, 0), (12, 0), (13, 0), (14, 0), (15, 0), (16, 1), (17, 0), (18, 0), (19, 0), (20, 0), (21, 1), (22, 2), (23, 0), (24, 0)] mixed rfl (by kernel_rfl) (by kernel_rfl) [exact x] ?_
        refine hwk ?_
        refine CH.pure rfl (PS.indexAddr (j := i) rfl rfl rfl rfl (by omega)) ?_
        refine hwk ?_
        (apply CH.read; (· rfl); (· apply PS.load (v := sv (l[i]).key); (· rfl); (· rfl); (· exact hp.1.cell (by first | exact pickA | exact updA) h1 0 rfl)); (· exact selA))
        refine hwk ?_
        refine CH.pure rfl (PS.indexAddr (j := i) rfl rfl rfl rfl (by omega)) ?_
        refine hwk ?_
        (apply CH.read; (· rfl); (· apply PS.load (v := sv (k[i]).key); (· rfl); (· rfl); (· exact hp.2.cell (by first | exact pickA | exact updA) h2 0 rfl)); (· exact selA))
        refine CH.pure rfl ((PS.neqStr (a := (l[i]).key) (b := (k[i]).key) rfl rfl rfl).toF (fun h => h hk)) ?_
        refine hwk ?_
        refine CH.pure rfl (PS.indexAddr (j := i) rfl rfl rfl rfl (by omega)) ?_
        refine hwk ?_
        (apply CH.read; (· rfl); (· apply PS.load (v := .slice (l[i]).s.a (l[i]).s.b.length (l[i]).s.c); (· rfl); (· rfl); (· exact hp.1.cell (by first | exact pickA | exact updA) h1 1 rfl)); (· exact selA))
        refine hwk ?_
        refine CH.pure rfl (PS.indexAddr (j := i) rfl rfl rfl rfl (by omega)) ?_
        refine hwk ?_
        (apply CH.read; (· rfl); (· apply PS.load (v := .slice (k[i]).s.a (k[i]).s.b.length (k[i]).s.c); (· rfl); (· rfl); (· exact hp.2.cell (by first | exact pickA | exact updA) h2 1 rfl)); (· exact selA))
        refine CH.chain rfl fun K hK => ?_
        refine CX.callA (same_c (l[i]).s.b (k[i]).s.b (l[i]).s.a (k[i]).s.a (l[i]).s.c (k[i]).s.c) ?_ (hpre := by exact fun y hy => ⟨rdx_ex (show Pick (exact x) _ _ from by first | exact pickA | exact updA) hr.r y hy, rdx_ex (show Pick (exact x) _ _ from by first | exact pickA | exact updA) hr'.r y hy⟩)
        rw [decide_eq_false hb]
        rintro _ _ ⟨rfl, rfl⟩
        (refine CX.nil ?_; refine CQ.thenK ?_; apply hK; (· exact selA); clear hK K)
        refine hwk ?_
        refine wk ?_
        ((apply CQ.end1; (· rfl); (· exact .tmp rfl)); (· exact ⟨by rw [decide_eq_false fun e => hne (eat e i h1 h2)], rfl⟩); (· exact selA))
      · have heq : (l[i]).m = (k[i]).m := by unfold RwV.m; rw [hk, hb]
        refine wk ?_
        refine CC.draw [(0, 0), (1, 0), (2, 0), (3, 0), (4, 1), (5, 0), (6, 0), (7, 0), (8, 0), (9, 1), (10, 0), (11, 0), (12, 0), (13, 0), (14, 0), (15, 0), (16, 1), (17, 0), (18, 0), (19, 0), (20, 0), (21, 1), (22, 2), (23, 0), (24, 0)] mixed rfl (by kernel_rfl) (by kernel_rfl) [exact x] ?_
        refine hwk ?_
        refine CH.pure rfl (PS.indexAddr (j := i) rfl rfl rfl rfl (by omega)) ?_
        refine hwk ?_
        (apply CH.read; (· rfl); (· apply PS.load (v := sv (l[i]).key); (· rfl); (· rfl); (· exact hp.1.cell (by first | exact pickA | exact updA) h1 0 rfl)); (· exact selA))
        refine hwk ?_
        refine CH.pure rfl (PS.indexAddr (j := i) rfl rfl rfl rfl (by omega)) ?_
        refine hwk ?_
        (apply CH.read; (· rfl); (· apply PS.load (v := sv (k[i]).key); (· rfl); (· rfl); (· exact hp.2.cell (by first | exact pickA | exact updA) h2 0 rfl)); (· exact selA))
        refine CH.pure rfl ((PS.neqStr (a := (l[i]).key) (b := (k[i]).key) rfl rfl rfl).toF (fun h => h hk)) ?_
        refine hwk ?_
        refine CH.pure rfl (PS.indexAddr (j := i) rfl rfl rfl rfl (by omega)) ?_
        refine hwk ?_
        (apply CH.read; (· rfl); (· apply PS.load (v := .slice (l[i]).s.a (l[i]).s.b.length (l[i]).s.c); (· rfl); (· rfl); (· exact hp.1.cell (by first | exact pickA | exact updA) h1 1 rfl)); (· exact selA))
        refine hwk ?_
        refine CH.pure rfl (PS.indexAddr (j := i) rfl rfl rfl rfl (by omega)) ?_
        refine hwk ?_
        (apply CH.read; (· rfl); (· apply PS.load (v := .slice (k[i]).s.a (k[i]).s.b.length (k[i]).s.c); (· rfl); (· rfl); (· exact hp.2.cell (by first | exact pickA | exact updA) h2 1 rfl)); (· exact selA))
        refine CH.chain rfl fun K hK => ?_
        refine CX.callA (same_c (l[i]).s.b (k[i]).s.b (l[i]).s.a (k[i]).s.a (l[i]).s.c (k[i]).s.c) ?_ (hpre := by exact fun y hy => ⟨rdx_ex (show Pick (exact x) _ _ from by first | exact pickA | exact updA) hr.r y hy, rdx_ex (show Pick (exact x) _ _ from by first | exact pickA | exact updA) hr'.r y hy⟩)
        rw [decide_eq_true hb]
        rintro _ _ ⟨rfl, rfl⟩
        (refine CX.nil ?_; refine CQ.thenK ?_; apply hK; (· exact selA); clear hK K)
        refine hwk ?_
        refine wk ?_
        exact CQ.round (i + 1) ⟨by omega, fun j h h' h0 => by
          by_cases e : j < i
          · exact hpre j h h' e
          · obtain rfl : j = i := by omega
            exact heq⟩ (by omega) ⟨eqI (by omega), rfl, rfl, trivial⟩ (by exact selA)
    · obtain rfl : i = l.length := by omega
      have e : l.map RwV.m = k.map RwV.m := List.ext_getElem (by simpa using hn) fun j h h' => by simpa using hpre j (by simpa using h) (by simpa using h') (by simpa using h)
      refine wk ?_
      ((apply CQ.end1; (· rfl); (· exact .tmp rfl)); (· exact ⟨by rw [decide_eq_true e], rfl⟩); (· exact selA))
  · have e : l.map RwV.m ≠ k.map RwV.m := fun h => hn (by simpa using congrArg List.length h)
    refine wk ?_
    ((apply CQ.end1; (· rfl); (· exact .tmp rfl)); (· exact ⟨by rw [decide_eq_false e], rfl⟩); (· exact selA))
end Go.Proofs.YtlckhaodecdbbaaGreatDoor
/-! Two lists gone through at once (batch.merged), in the program. Printed by mg.py (wip). -/
namespace Go.Cx
/-- Parts of the memory as one. -/
@[irreducible] def many (M : List Assn) : Assn where
  ok h := Sep M h
  mono := fun _ _ l s => s.mono l
theorem many_ok {M : List Assn} {h : PH} : (many M).ok h ↔ Sep M h := by
  unfold many; exact Iff.rfl
theorem Sep.many_in {M L : List Assn} {h : PH} (s : Sep (M ++ L) h) : Sep (many M :: L) h := by
  obtain ⟨S, a, b⟩ := s.append
  exact ⟨S, many_ok.2 a, b⟩
theorem Sep.many_out {M L : List Assn} {h : PH} (s : Sep (many M :: L) h) : Sep (M ++ L) h := by
  obtain ⟨S, a, b⟩ := s
  exact Sep.join S (many_ok.1 a) b
section
variable {P : Program} {ops : Array Oper} {Q : Exit → Act → World → Prop} {n l : Nat} {e0 : World} {env : Env} {L : List Assn} {rest : List Oper}
variable {dst : Option Tmp} {ty : TypeId} {pos : String} {aft : Array Edge} {g : Option (Nat × Bool)} {op : Op}
theorem CXI.yieldM {y : Operand} {xs : List Operand} {tys : Array TypeId} {vs : List Value} {x : PH} {I : Nat → List Assn → Prop} {encs : List (List Value)} {k : Nat} {M L' N : List Assn}
    (hY : ∀ k v M y w, encs[k]? = some v → I k M → Le x y → Sep (M ++ [exact y]) w.ph → YieldAt Fence.wide 0 P l v.toArray w (CtrR y w (fun u M' => u = .bool true ∧ I (k + 1) M')))
    (hk : encs[k]? = some vs) (hI : I k M)
    (h : ∀ M', I (k + 1) M' → CXI P ops Q n e0 (putE env dst (.bool true)) (many M' :: L') rest) (p : Pick (many M) L L' := by first | exact pickA | exact updA) (q : Pick (exact x) L' N := by first | exact pickA | exact updA) (hg : gd ops n env g = some true := by rfl)
    (hy : ev n env y = some (.func (.yield l) #[] #[]) := by rfl) (hx : evs n env xs = some vs := by rfl) :
    CXI P ops Q n e0 env L (⟨dst, .call ⟨.value y, xs.toArray, tys⟩, ty, pos, aft, g⟩ :: rest) :=
  CXI.step hg fun a w hf hs he => by
    obtain ⟨z, hz, hl⟩ := ((p.sep hs).many_out).rest
    obtain ⟨fn, tmps, assign, body, hrun, hR⟩ := hY k vs M z w hk hI (q.ok hl) hz
    refine ⟨fun _ _ => trivial, ?_⟩
    have hm := hf.evals hx
    have hv := hf.eval hy
    have e : (execOp a.eval ⟨dst, .call ⟨.value y, xs.toArray, tys⟩, ty, pos, aft, g⟩).run P w = .ok (.round l fn tmps assign body) w := by
      rw [← hrun, ← hm]
      simp [execOp, resolve, hv, Deferred.ofValue, invoke]
    rw [show Fence.wide.round = none from rfl, Oper.semAt_none, e]
    refine ⟨FW_depth none, hR.mono ?_⟩
    rintro e w' ⟨v, M', ⟨rfl, hI'⟩, rfl, hs', he'⟩
    exact h M' hI' _ _ (hf.put dst _) ((hs'.unrest hl).many_in) (he.trans he')
theorem Iter.intro {f : FuncId} {fn : Func} {c : Code} {caps : List Value} {H : List Assn} {Rd : PH → Prop} {encs : List (List Value)}
    (hf : P.funcs[f]? = some fn) (hb : fn.body = some c) (hn : fn.ntmps = n) (hl : Nat.ble (caps.length + 1) n = true)
    (h : ∀ (l : Nat) (x : PH) (I : Nat → List Assn → Prop) (w : World), Rd x →
      (∀ k v M y w, encs[k]? = some v → I k M → Le x y → Sep (M ++ [exact y]) w.ph → YieldAt Fence.wide 0 P l v.toArray w (CtrR y w (fun u M' => u = .bool true ∧ I (k + 1) M'))) →
      ∀ M0, I 0 M0 → CC P c (bodyPost P fn (CtrR x w (fun v M => v = .tuple #[] ∧ I encs.length M))) n w (argE (.func (.yield l) #[] #[] :: caps) 0) (many M0 :: (H ++ [exact x]))) : Iter P f caps H Rd encs := by
  intro l x I hrd hY M0 w hI hs
  have hl' := Nat.le_of_ble_eq_true hl
  refine calls_of_wp hf hb (h l x I w hrd hY M0 hI _ w ⟨rfl, ?_, fun t v ht hlk => ?_⟩ ?_ (Env0.refl w))
  · simp [hn]; omega
  · obtain ⟨j, e, hj⟩ := look_argE _ _ _ _ hlk
    have hjl : j < (Value.func (.yield l) #[] #[] :: caps).length := (List.getElem?_eq_some_iff.1 hj).1
    subst e
    simp only [Nat.zero_add, Array.getD_eq_getD_getElem?]
    rw [Array.getElem?_append_left (by simpa using hjl)]
    simp [hj]
  · rw [List.append_assoc] at hs
    have h1 : Sep (many M0 :: (H ++ [exact x])) w.ph := by
      obtain ⟨S, a, b⟩ := hs.append
      have e3 : Sep (many M0 :: [exact x]) (w.ph.less S) := b.many_in
      have e4 : Sep (H ++ (many M0 :: [exact x])) w.ph := Sep.join S a e3
      exact (pick_mid (many M0) H [exact x]).sep e4
    exact h1
theorem CQ.endIter {fn : Func} {x : PH} {I : Nat → List Assn → Prop} {k m : Nat} {M L' N : List Assn} (hr : fn.results = #[]) (hI : I k M) (e : k = m) (p : Pick (many M) L L' := by first | exact pickA | exact updA) (q : Pick (exact x) L' N := by first | exact pickA | exact updA) :
    CQ (bodyPost P fn (CtrR x e0 (fun v M => v = .tuple #[] ∧ I m M)) .normal) n e0 env L := fun a w hf hs he => by
  subst e
  have s2 : Sep (many M :: exact x :: N) w.ph := Sep.cons_mono (fun _ => q.sep) (p.sep hs)
  have s3 : Sep ([many M, exact x] ++ N) w.ph := s2
  exact ⟨hf.defers, _, fin0 hr w, _, M, ⟨rfl, hI⟩, rfl, (s3.left).many_out, he⟩
end
/-! ### What is handed out -/
def mrg {α β : Type} (ka : α → Blk) (kb : β → Blk) : Nat → List α → Nat → List β → List (Option (Nat × α) × Option (Nat × β))
  | _, [], _, [] => []
  | i, x :: t, j, [] => (some (i, x), none) :: mrg ka kb (i + 1) t j []
  | i, [], j, y :: l => (none, some (j, y)) :: mrg ka kb i [] (j + 1) l
  | i, x :: t, j, y :: l =>
    if klt (ka x) (kb y) then (some (i, x), none) :: mrg ka kb (i + 1) t j (y :: l)
    else if ka x = kb y then (some (i, x), some (j, y)) :: mrg ka kb (i + 1) t (j + 1) l
    else (none, some (j, y)) :: mrg ka kb i (x :: t) (j + 1) l
termination_by _ t _ l => t.length + l.length
def atP (a : Option Addr) (k : Nat) : Option Addr := a.map (·.add k)
def encM {α β : Type} (a b : Option Addr) (sa sb : Nat) (p : Option (Nat × α) × Option (Nat × β)) : List Value :=
  [.pointer (p.1.bind fun q => atP a (q.1 * sa)), .pointer (p.2.bind fun q => atP b (q.1 * sb))]
theorem atP_some (g o k : Nat) : atP (some ⟨g, o, none⟩) k = some ⟨g, o + k, none⟩ := by simp [atP, addr_add]
theorem drop_cons {α : Type} {L T : List α} {h : α} {k : Nat} (e : h :: T = L.drop k) : k < L.length ∧ L[k]? = some h ∧ T = L.drop (k + 1) := by
  have h1 : k < L.length := by
    rcases Nat.lt_or_ge k L.length with h1 | h1
    · exact h1
    · rw [List.drop_of_length_le h1] at e; cases e
  rw [List.drop_eq_getElem_cons h1] at e
  simp only [List.cons.injEq] at e
  exact ⟨h1, by rw [List.getElem?_eq_getElem h1, ← e.1], e.2⟩
theorem rwAt.cells0 {L L' : List Assn} {x : PH} {g off i : Nat} {l : List RwV} (h : rwAt (some ⟨g, off, none⟩) l x) (p : Pick (exact x) L L') (hi : i < l.length) : CellsAt L g (off + i * 2 + 0 * 2) (l[i]).cells := h.cells p hi
theorem chAt.cells0 {L L' : List Assn} {x : PH} {g off i : Nat} {l : List ChV} (h : chAt (some ⟨g, off, none⟩) l x) (p : Pick (exact x) L L') (hi : i < l.length) : CellsAt L g (off + i * 3 + 0 * 3) (l[i]).cells := h.cells p hi
def cmpZ (a b : Blk) : Int := if klt a b then -1 else if a = b then 0 else 1
end Go.Cx
namespace Go.Proofs.YtlckhaodecdbbaaGreatDoor
open Go.Cx
attribute [local irreducible] Go.Cx.CX Go.Cx.CC Go.Cx.CQ Go.Cx.PS Go.Cx.Ctr Go.Cx.CH
set_option maxRecDepth 10000
theorem nan_c (a : Blk) : Ctr Tryz.prog 150 [sv a] [] (fun _ => True) (fun v M => v = .bool false ∧ M = []) := by
  refine Ctr.intro Tryz.func150 rfl Tryz.ntmps150 rfl fun x w hp => ?_
  refine wk ?_
  refine CX.ps ((PS.neqStr (a := a) (b := a) rfl rfl rfl).toF (fun h => h rfl)) ?_
  refine wk ?_
  ((apply CQ.end1; (· rfl); (· exact .tmp rfl)); (· exact ⟨rfl, rfl⟩); (· exact selA))
theorem cmp_c (a b : Blk) : Ctr Tryz.prog 110 [sv a, sv b] [] (fun _ => True) (fun v M => v = .int .i64 (cmpZ a b) ∧ M = []) := by
  refine Ctr.intro Tryz.func110 rfl Tryz.ntmps110 rfl fun x w hp => ?_
  refine wk ?_
  refine CX.callA (nan_c a) ?_
  rintro _ _ ⟨rfl, rfl⟩
  refine wk ?_
  refine CX.callA (nan_c b) ?_
  rintro _ _ ⟨rfl, rfl⟩
  by_cases h1 : klt a b = true
  · rw [show cmpZ a b = -1 by unfold cmpZ; rw [if_pos h1]]
    refine wk ?_
    refine CX.ps (PS.lssStr (a := a) (b := b) true h1) ?_
    refine wk ?_
    ((apply CQ.end1; (· rfl); (· exact .tmp rfl)); (· exact ⟨rfl, rfl⟩); (· exact selA))
  · have h1' : klt a b = false := by simpa using h1
    by_cases h2 : a = b
    · rw [show cmpZ a b = 0 by unfold cmpZ; rw [if_neg h1, if_pos h2]]
      refine wk ?_
      refine CX.ps (PS.lssStr (a := a) (b := b) false h1') ?_
      refine wk ?_
      refine CX.ps (PS.gtrStr (a := a) (b := b) false (by rw [h2, klt_irr])) ?_
      refine wk ?_
      ((apply CQ.end1; (· rfl); (· exact .tmp rfl)); (· exact ⟨rfl, rfl⟩); (· exact selA))
    · have h3 : klt b a = true := by
        rcases klt_tri a b with h | h | h
        · exact absurd h h1
        · exact absurd h h2
        · exact h
      rw [show cmpZ a b = 1 by unfold cmpZ; rw [if_neg h1, if_neg h2]]
      refine wk ?_
      refine CX.ps (PS.lssStr (a := a) (b := b) false h1') ?_
      refine wk ?_
      refine CX.ps (PS.gtrStr (a := a) (b := b) true h3) ?_
      refine wk ?_
      ((apply CQ.end1; (· rfl); (· exact .tmp rfl)); (· exact ⟨rfl, rfl⟩); (· exact selA))
theorem itC_c (t : List RwV) (l : List ChV) (ht : t.length ≤ 1073741824) (hl : l.length ≤ 1073741824) (a b : Option Addr) (ca cb' : Nat) (hca : t.length ≤ ca) (hcb : l.length ≤ cb') (b1 b2 b3 b4 : Nat) :
    Iter Tryz.prog 125 [.pointer (some ⟨b1, 0, none⟩), .pointer (some ⟨b2, 0, none⟩), .pointer (some ⟨b3, 0, none⟩), .pointer (some ⟨b4, 0, none⟩)]
      [bk b1 32 [.slice a t.length ca], bk b2 34 [.slice b l.length cb'], bk b3 134 [.func (.func 82) #[] #[]], bk b4 127 [.func (.func 83) #[] #[]]]
      (fun x => rwAt a t x ∧ chAt b l x) ((mrg rwKey chKey 0 t 0 l).map (encM a b 2 3)) := by
  refine Iter.intro Tryz.func125 rfl Tryz.ntmps125 rfl ?_
  rintro ly x I w ⟨hpa, hpb⟩ hY M0 hI0
  rw [List.length_map]
  generalize hL : mrg rwKey chKey 0 t 0 l = Lm at *
  refine wk ?_
  refine CC.loop (X := Nat × Nat × Option Addr × Option Addr × Nat × List Assn)
    (fun s => [(0, .func (.yield ly) #[] #[]), (1, .pointer (some ⟨b1, 0, none⟩)), (2, .pointer (some ⟨b2, 0, none⟩)), (3, .pointer (some ⟨b3, 0, none⟩)), (4, .pointer (some ⟨b4, 0, none⟩))])
    (fun s => [many s.2.2.2.2.2, bk b1 32 [.slice s.2.2.1 (t.length - s.1) (ca - s.1)], bk b2 34 [.slice s.2.2.2.1 (l.length - s.2.1) (cb' - s.2.1)], bk b3 134 [.func (.func 82) #[] #[]], bk b4 127 [.func (.func 83) #[] #[]], exact x])
    (fun s => s.1 ≤ t.length ∧ s.2.1 ≤ l.length ∧ (s.1 < t.length → s.2.2.1 = atP a (s.1 * 2)) ∧ (s.2.1 < l.length → s.2.2.2.1 = atP b (s.2.1 * 3)) ∧ s.2.2.2.2.1 ≤ Lm.length ∧ mrg rwKey chKey s.1 (t.drop s.1) s.2.1 (l.drop s.2.1) = Lm.drop s.2.2.2.2.1 ∧ I s.2.2.2.2.1 s.2.2.2.2.2)
    (fun s => (t.length - s.1) + (l.length - s.2.1)) (0, 0, a, b, 0, M0) ⟨Nat.zero_le _, Nat.zero_le _, fun h => by
      obtain ⟨g, o, rfl⟩ := rwAt_some hpa (by omega)
      simp [atP_some], fun h => by
      obtain ⟨g, o, rfl⟩ := chAt_some hpb (by omega)
      simp [atP_some], Nat.zero_le _, by simpa using hL, hI0⟩ ⟨rfl, rfl, rfl, rfl, rfl, trivial⟩ (by simp only [Nat.sub_zero]; exact selA) ?_
  rintro ⟨i, j, sa, sb, k, M⟩ ⟨hi, hj, hsa, hsb, hk, hm, hI⟩
  dsimp only at hi hj hsa hsb hk hm hI ⊢
  by_cases h1 : i < t.length
  · obtain ⟨ga, oa, rfl⟩ := rwAt_some hpa (by omega)
    obtain rfl := hsa h1
    rw [atP_some]
    have eA : t.drop i = t[i] :: t.drop (i + 1) := List.drop_eq_getElem_cons h1
    have nxA : i + 1 < t.length → some (⟨ga, if ca - i = 1 then oa + i * 2 else oa + i * 2 + 1 * 2, none⟩ : Addr) = atP (some ⟨ga, oa, none⟩) ((i + 1) * 2) := fun h => by
      rw [atP_some, if_neg (by omega)]; congr 2; omega
    by_cases h2 : j < l.length
    · obtain ⟨gb, ob', rfl⟩ := chAt_some hpb (by omega)
      obtain rfl := hsb h2
      rw [atP_some]
      have eB : l.drop j = l[j] :: l.drop (j + 1) := List.drop_eq_getElem_cons h2
      have nxB : j + 1 < l.length → some (⟨gb, if cb' - j = 1 then ob' + j * 3 else ob' + j * 3 + 1 * 3, none⟩ : Addr) = atP (some ⟨gb, ob', none⟩) ((j + 1) * 3) := fun h => by
        rw [atP_some, if_neg (by omega)]; congr 2; omega
      rw [eA, eB, mrg, ← eA, ← eB] at hm
      by_cases h3 : klt (rwKey t[i]) (chKey l[j]) = true
      · rw [if_pos h3] at hm
        obtain ⟨hk1, hk2, hm2⟩ := drop_cons hm
        have hz : cmpZ (t[i]).key (l[j]).key = -1 := if_pos h3
        refine wk ?_
        refine CC.draw [(0, 1), (1, 1), (2, 0), (3, 1), (5, 1), (6, 1), (7, 0), (8, 1), (4, 2), (9, 2), (10, 2), (11, 0)] mixed rfl (by kernel_rfl) (by kernel_rfl) [bk b1 32 [.slice (some ⟨ga, oa + i * 2, none⟩) (t.length - i) (ca - i)], bk b2 34 [.slice (some ⟨gb, ob' + j * 3, none⟩) (l.length - j) (cb' - j)], bk b3 134 [.func (.func 82) #[] #[]], bk b4 127 [.func (.func 83) #[] #[]], exact x] ?_
        refine hwk ?_
        refine CH.pure rfl (PS.indexAddr (j := 0) rfl rfl rfl rfl (by omega)) ?_
        (apply CH.read; (· rfl); (· apply PS.loadG (vs := (t[i]).cells); (· rfl); (· rfl); (· exact hpa.cells0 (by first | exact pickA | exact updA) h1); (· rfl)); (· exact selA))
        refine hwk ?_
        refine CH.pure rfl (PS.indexAddr (j := 0) rfl rfl rfl rfl (by omega)) ?_
        (apply CH.read; (· rfl); (· apply PS.loadG (vs := (l[j]).cells); (· rfl); (· rfl); (· exact hpb.cells0 (by first | exact pickA | exact updA) h2); (· rfl)); (· exact selA))
        refine CH.chain rfl fun K hK => ?_
        refine CX.callF (k1R_c t[i]) ?_
        rintro _ _ ⟨rfl, rfl⟩
        (refine CX.nil ?_; refine CQ.thenK ?_; apply hK; (· exact selA); clear hK K)
        refine CH.chain rfl fun K hK => ?_
        refine CX.callF (k1C_c l[j]) ?_
        rintro _ _ ⟨rfl, rfl⟩
        (refine CX.nil ?_; refine CQ.thenK ?_; apply hK; (· exact selA); clear hK K)
        refine CH.chain rfl fun K hK => ?_
        refine CX.callA (cmp_c (t[i]).key (l[j]).key) ?_
        rw [hz]
        rintro _ _ ⟨rfl, rfl⟩
        (refine CX.nil ?_; refine CQ.thenK ?_; apply hK; (· exact selA); clear hK K)
        refine hwk ?_
        refine wk ?_
        refine CC.draw [(0, 1), (1, 0), (2, 1), (3, 0), (4, 0), (5, 3)] mixed rfl (by kernel_rfl) (by kernel_rfl) [bk b1 32 [.slice (some ⟨ga, oa + i * 2, none⟩) (t.length - i) (ca - i)]] ?_
        refine hwk ?_
        refine CH.pure rfl (PS.indexAddr (j := 0) rfl rfl rfl rfl (by omega)) ?_
        refine hwk ?_
        refine CH.pure rfl (PS.sliceLo (l := 1) rfl rfl rfl rfl (by omega) (by omega)) ?_
        refine hwk ?_
        refine CH.tail rfl rfl fun K hK => ?_
        refine CX.storeA ?_
        (refine CX.nil ?_; refine CQ.thenK ?_; apply hK; clear hK K)
        refine hwk ?_
        refine wnk ?_
        refine CC.region ?_
        refine wnk ?_
        refine CC.regionI ?_
        refine CXI.ps ?_
        refine CXI.ps ?_
        refine CXI.ps ?_
        refine CXI.yieldM hY (k := k) (M := M) (vs := [.pointer (some ⟨ga, oa + i * 2, none⟩), .pointer none]) (by rw [List.getElem?_map, hk2]; simp [encM, atP_some]) hI ?_
        intro M' hI'
        refine CXI.ps ?_
        refine CXI.nil ?_
        refine wnk ?_
        exact CQ.round (x := (i, j, some ⟨ga, oa + i * 2, none⟩, some ⟨gb, ob' + j * 3, none⟩, k, M)) (i + 1, j, some ⟨ga, if ca - i = 1 then oa + i * 2 else oa + i * 2 + 1 * 2, none⟩, some ⟨gb, ob' + j * 3, none⟩, k + 1, M') ⟨by dsimp only; omega, by dsimp only; omega, nxA, fun _ => by rw [atP_some], by dsimp only; omega, hm2, hI'⟩ (by dsimp only; omega) ⟨rfl, rfl, rfl, rfl, rfl, trivial⟩ (by (try simp only [Nat.sub_sub]); exact selA)
      · rw [if_neg h3] at hm
        by_cases h4 : rwKey t[i] = chKey l[j]
        · rw [if_pos h4] at hm
          obtain ⟨hk1, hk2, hm2⟩ := drop_cons hm
          have hz : cmpZ (t[i]).key (l[j]).key = 0 := (if_neg h3).trans (if_pos h4)
          refine wk ?_
          refine CC.draw [(0, 1), (1, 1), (2, 0), (3, 1), (5, 1), (6, 1), (7, 0), (8, 1), (4, 2), (9, 2), (10, 2), (11, 0)] mixed rfl (by kernel_rfl) (by kernel_rfl) [bk b1 32 [.slice (some ⟨ga, oa + i * 2, none⟩) (t.length - i) (ca - i)], bk b2 34 [.slice (some ⟨gb, ob' + j * 3, none⟩) (l.length - j) (cb' - j)], bk b3 134 [.func (.func 82) #[] #[]], bk b4 127 [.func (.func 83) #[] #[]], exact x] ?_
          refine hwk ?_
          refine CH.pure rfl (PS.indexAddr (j := 0) rfl rfl rfl rfl (by omega)) ?_
          (apply CH.read; (· rfl); (· apply PS.loadG (vs := (t[i]).cells); (· rfl); (· rfl); (· exact hpa.cells0 (by first | exact pickA | exact updA) h1); (· rfl)); (· exact selA))
          refine hwk ?_
          refine CH.pure rfl (PS.indexAddr (j := 0) rfl rfl rfl rfl (by omega)) ?_
          (apply CH.read; (· rfl); (· apply PS.loadG (vs := (l[j]).cells); (· rfl); (· rfl); (· exact hpb.cells0 (by first | exact pickA | exact updA) h2); (· rfl)); (· exact selA))
          refine CH.chain rfl fun K hK => ?_
          refine CX.callF (k1R_c t[i]) ?_
          rintro _ _ ⟨rfl, rfl⟩
          (refine CX.nil ?_; refine CQ.thenK ?_; apply hK; (· exact selA); clear hK K)
          refine CH.chain rfl fun K hK => ?_
          refine CX.callF (k1C_c l[j]) ?_
          rintro _ _ ⟨rfl, rfl⟩
          (refine CX.nil ?_; refine CQ.thenK ?_; apply hK; (· exact selA); clear hK K)
          refine CH.chain rfl fun K hK => ?_
          refine CX.callA (cmp_c (t[i]).key (l[j]).key) ?_
          rw [hz]
          rintro _ _ ⟨rfl, rfl⟩
          (refine CX.nil ?_; refine CQ.thenK ?_; apply hK; (· exact selA); clear hK K)
          refine hwk ?_
          refine wk ?_
          refine CC.draw [(0, 1), (1, 0), (2, 1), (3, 0), (4, 0), (5, 3)] mixed rfl (by kernel_rfl) (by kernel_rfl) [bk b1 32 [.slice (some ⟨ga, oa + i * 2, none⟩) (t.length - i) (ca - i)]] ?_
          refine hwk ?_
          refine CH.pure rfl (PS.indexAddr (j := 0) rfl rfl rfl rfl (by omega)) ?_
          refine hwk ?_
          refine CH.pure rfl (PS.sliceLo (l := 1) rfl rfl rfl rfl (by omega) (by omega)) ?_
          refine hwk ?_
          refine CH.tail rfl rfl fun K hK => ?_
          refine CX.storeA ?_
          (refine CX.nil ?_; refine CQ.thenK ?_; apply hK; clear hK K)
          refine hwk ?_
          refine wnk ?_
          refine CC.region ?_
          refine wnk ?_
          refine CC.draw [(0, 1), (1, 0), (2, 1), (3, 0), (4, 0), (5, 3)] mixed rfl (by kernel_rfl) (by kernel_rfl) [bk b2 34 [.slice (some ⟨gb, ob' + j * 3, none⟩) (l.length - j) (cb' - j)]] ?_
          refine hwk ?_
          refine CH.pure rfl (PS.indexAddr (j := 0) rfl rfl rfl rfl (by omega)) ?_
          refine hwk ?_
          refine CH.pure rfl (PS.sliceLo (l := 1) rfl rfl rfl rfl (by omega) (by omega)) ?_
          refine hwk ?_
          refine CH.tail rfl rfl fun K hK => ?_
          refine CX.storeA ?_
          (refine CX.nil ?_; refine CQ.thenK ?_; apply hK; clear hK K)
          refine hwk ?_
          refine wnk ?_
          refine CC.regionI ?_
          refine CXI.ps ?_
          refine CXI.ps ?_
          refine CXI.ps ?_
          refine CXI.yieldM hY (k := k) (M := M) (vs := [.pointer (some ⟨ga, oa + i * 2, none⟩), .pointer (some ⟨gb, ob' + j * 3, none⟩)]) (by rw [List.getElem?_map, hk2]; simp [encM, atP_some]) hI ?_
          intro M' hI'
          refine CXI.ps ?_
          refine CXI.nil ?_
          refine wnk ?_
          exact CQ.round (x := (i, j, some ⟨ga, oa + i * 2, none⟩, some ⟨gb, ob' + j * 3, none⟩, k, M)) (i + 1, j + 1, some ⟨ga, if ca - i = 1 then oa + i * 2 else oa + i * 2 + 1 * 2, none⟩, some ⟨gb, if cb' - j = 1 then ob' + j * 3 else ob' + j * 3 + 1 * 3, none⟩, k + 1, M') ⟨by dsimp only; omega, by dsimp only; omega, nxA, nxB, by dsimp only; omega, hm2, hI'⟩ (by dsimp only; omega) ⟨rfl, rfl, rfl, rfl, rfl, trivial⟩ (by (try simp only [Nat.sub_sub]); exact selA)
        · rw [if_neg h4] at hm
          obtain ⟨hk1, hk2, hm2⟩ := drop_cons hm
          have hz : cmpZ (t[i]).key (l[j]).key = 1 := (if_neg h3).trans (if_neg h4)
          refine wk ?_
          refine CC.draw [(0, 1), (1, 1), (2, 0), (3, 1), (5, 1), (6, 1), (7, 0), (8, 1), (4, 2), (9, 2), (10, 2), (11, 0)] mixed rfl (by kernel_rfl) (by kernel_rfl) [bk b1 32 [.slice (some ⟨ga, oa + i * 2, none⟩) (t.length - i) (ca - i)], bk b2 34 [.slice (some ⟨gb, ob' + j * 3, none⟩) (l.length - j) (cb' - j)], bk b3 134 [.func (.func 82) #[] #[]], bk b4 127 [.func (.func 83) #[] #[]], exact x] ?_
          refine hwk ?_
          refine CH.pure rfl (PS.indexAddr (j := 0) rfl rfl rfl rfl (by omega)) ?_
          (apply CH.read; (· rfl); (· apply PS.loadG (vs := (t[i]).cells); (· rfl); (· rfl); (· exact hpa.cells0 (by first | exact pickA | exact updA) h1); (· rfl)); (· exact selA))
          refine hwk ?_
          refine CH.pure rfl (PS.indexAddr (j := 0) rfl rfl rfl rfl (by omega)) ?_
          (apply CH.read; (· rfl); (· apply PS.loadG (vs := (l[j]).cells); (· rfl); (· rfl); (· exact hpb.cells0 (by first | exact pickA | exact updA) h2); (· rfl)); (· exact selA))
          refine CH.chain rfl fun K hK => ?_
          refine CX.callF (k1R_c t[i]) ?_
          rintro _ _ ⟨rfl, rfl⟩
          (refine CX.nil ?_; refine CQ.thenK ?_; apply hK; (· exact selA); clear hK K)
          refine CH.chain rfl fun K hK => ?_
          refine CX.callF (k1C_c l[j]) ?_
          rintro _ _ ⟨rfl, rfl⟩
          (refine CX.nil ?_; refine CQ.thenK ?_; apply hK; (· exact selA); clear hK K)
          refine CH.chain rfl fun K hK => ?_
          refine CX.callA (cmp_c (t[i]).key (l[j]).key) ?_
          rw [hz]
          rintro _ _ ⟨rfl, rfl⟩
          (refine CX.nil ?_; refine CQ.thenK ?_; apply hK; (· exact selA); clear hK K)
          refine hwk ?_
          refine wk ?_
          refine CC.draw [(0, 1), (1, 0), (2, 1), (3, 0), (4, 0), (5, 3)] mixed rfl (by kernel_rfl) (by kernel_rfl) [bk b2 34 [.slice (some ⟨gb, ob' + j * 3, none⟩) (l.length - j) (cb' - j)]] ?_
          refine hwk ?_
          refine CH.pure rfl (PS.indexAddr (j := 0) rfl rfl rfl rfl (by omega)) ?_
          refine hwk ?_
          refine CH.pure rfl (PS.sliceLo (l := 1) rfl rfl rfl rfl (by omega) (by omega)) ?_
          refine hwk ?_
          refine CH.tail rfl rfl fun K hK => ?_
          refine CX.storeA ?_
          (refine CX.nil ?_; refine CQ.thenK ?_; apply hK; clear hK K)
          refine hwk ?_
          refine wnk ?_
          refine CC.regionI ?_
          refine CXI.ps ?_
          refine CXI.ps ?_
          refine CXI.ps ?_
          refine CXI.yieldM hY (k := k) (M := M) (vs := [.pointer none, .pointer (some ⟨gb, ob' + j * 3, none⟩)]) (by rw [List.getElem?_map, hk2]; simp [encM, atP_some]) hI ?_
          intro M' hI'
          refine CXI.ps ?_
          refine CXI.nil ?_
          refine wnk ?_
          exact CQ.round (x := (i, j, some ⟨ga, oa + i * 2, none⟩, some ⟨gb, ob' + j * 3, none⟩, k, M)) (i, j + 1, some ⟨ga, oa + i * 2, none⟩, some ⟨gb, if cb' - j = 1 then ob' + j * 3 else ob' + j * 3 + 1 * 3, none⟩, k + 1, M') ⟨by dsimp only; omega, by dsimp only; omega, (fun _ => by rw [atP_some]), nxB, by dsimp only; omega, hm2, hI'⟩ (by dsimp only; omega) ⟨rfl, rfl, rfl, rfl, rfl, trivial⟩ (by (try simp only [Nat.sub_sub]); exact selA)
    · obtain rfl : j = l.length := by omega
      rw [eA, List.drop_length, mrg] at hm
      obtain ⟨hk1, hk2, hm2⟩ := drop_cons hm
      refine wk ?_
      refine CC.draw [(0, 1), (1, 0), (2, 1), (3, 0), (4, 0), (5, 3)] mixed rfl (by kernel_rfl) (by kernel_rfl) [bk b1 32 [.slice (some ⟨ga, oa + i * 2, none⟩) (t.length - i) (ca - i)]] ?_
      refine hwk ?_
      refine CH.pure rfl (PS.indexAddr (j := 0) rfl rfl rfl rfl (by omega)) ?_
      refine hwk ?_
      refine CH.pure rfl (PS.sliceLo (l := 1) rfl rfl rfl rfl (by omega) (by omega)) ?_
      refine hwk ?_
      refine CH.tail rfl rfl fun K hK => ?_
      refine CX.storeA ?_
      (refine CX.nil ?_; refine CQ.thenK ?_; apply hK; clear hK K)
      refine hwk ?_
      refine wnk ?_
      refine CC.region ?_
      refine wnk ?_
      refine CC.regionI ?_
      refine CXI.ps ?_
      refine CXI.ps ?_
      refine CXI.ps ?_
      refine CXI.yieldM hY (k := k) (M := M) (vs := [.pointer (some ⟨ga, oa + i * 2, none⟩), .pointer none]) (by rw [List.getElem?_map, hk2]; simp [encM, atP_some]) hI ?_
      intro M' hI'
      refine CXI.ps ?_
      refine CXI.nil ?_
      refine wnk ?_
      exact CQ.round (x := (i, l.length, some ⟨ga, oa + i * 2, none⟩, sb, k, M)) (i + 1, l.length, some ⟨ga, if ca - i = 1 then oa + i * 2 else oa + i * 2 + 1 * 2, none⟩, sb, k + 1, M') ⟨by dsimp only; omega, by dsimp only; omega, nxA, (fun h => by dsimp only at h; omega), by dsimp only; omega, by dsimp only; rw [List.drop_length]; exact hm2, hI'⟩ (by dsimp only; omega) ⟨rfl, rfl, rfl, rfl, rfl, trivial⟩ (by (try simp only [Nat.sub_sub]); exact selA)
  · obtain rfl : i = t.length := by omega
    by_cases h2 : j < l.length
    · obtain ⟨gb, ob', rfl⟩ := chAt_some hpb (by omega)
      obtain rfl := hsb h2
      rw [atP_some]
      have eB : l.drop j = l[j] :: l.drop (j + 1) := List.drop_eq_getElem_cons h2
      have nxB : j + 1 < l.length → some (⟨gb, if cb' - j = 1 then ob' + j * 3 else ob' + j * 3 + 1 * 3, none⟩ : Addr) = atP (some ⟨gb, ob', none⟩) ((j + 1) * 3) := fun h => by
        rw [atP_some, if_neg (by omega)]; congr 2; omega
      rw [eB, List.drop_length, mrg] at hm
      obtain ⟨hk1, hk2, hm2⟩ := drop_cons hm
      refine wk ?_
      refine CC.draw [(0, 1), (1, 0), (2, 1), (3, 0), (4, 0), (5, 3)] mixed rfl (by kernel_rfl) (by kernel_rfl) [bk b2 34 [.slice (some ⟨gb, ob' + j * 3, none⟩) (l.length - j) (cb' - j)]] ?_
      refine hwk ?_
      refine CH.pure rfl (PS.indexAddr (j := 0) rfl rfl rfl rfl (by omega)) ?_
      refine hwk ?_
      refine CH.pure rfl (PS.sliceLo (l := 1) rfl rfl rfl rfl (by omega) (by omega)) ?_
      refine hwk ?_
      refine CH.tail rfl rfl fun K hK => ?_
      refine CX.storeA ?_
      (refine CX.nil ?_; refine CQ.thenK ?_; apply hK; clear hK K)
      refine hwk ?_
      refine wnk ?_
      refine CC.regionI ?_
      refine CXI.ps ?_
      refine CXI.ps ?_
      refine CXI.ps ?_
      refine CXI.yieldM hY (k := k) (M := M) (vs := [.pointer none, .pointer (some ⟨gb, ob' + j * 3, none⟩)]) (by rw [List.getElem?_map, hk2]; simp [encM, atP_some]) hI ?_
      intro M' hI'
      refine CXI.ps ?_
      refine CXI.nil ?_
      refine wnk ?_
      exact CQ.round (x := (t.length, j, sa, some ⟨gb, ob' + j * 3, none⟩, k, M)) (t.length, j + 1, sa, some ⟨gb, if cb' - j = 1 then ob' + j * 3 else ob' + j * 3 + 1 * 3, none⟩, k + 1, M') ⟨by dsimp only; omega, by dsimp only; omega, (fun h => by dsimp only at h; omega), nxB, by dsimp only; omega, by dsimp only; rw [List.drop_length]; exact hm2, hI'⟩ (by dsimp only; omega) ⟨rfl, rfl, rfl, rfl, rfl, trivial⟩ (by (try simp only [Nat.sub_sub]); exact selA)
    · obtain rfl : j = l.length := by omega
      rw [List.drop_length, List.drop_length, mrg] at hm
      have : Lm.length ≤ k := by
        rcases Nat.lt_or_ge k Lm.length with h | h
        · rw [List.drop_eq_getElem_cons h] at hm; cases hm
        · exact h
      refine wk ?_
      exact CQ.endIter rfl hI (by omega)
theorem itR_c (t : List RwV) (l : List RwV) (ht : t.length ≤ 1073741824) (hl : l.length ≤ 1073741824) (a b : Option Addr) (ca cb' : Nat) (hca : t.length ≤ ca) (hcb : l.length ≤ cb') (b1 b2 b3 b4 : Nat) :
    Iter Tryz.prog 180 [.pointer (some ⟨b1, 0, none⟩), .pointer (some ⟨b2, 0, none⟩), .pointer (some ⟨b3, 0, none⟩), .pointer (some ⟨b4, 0, none⟩)]
      [bk b1 32 [.slice a t.length ca], bk b2 32 [.slice b l.length cb'], bk b3 134 [.func (.func 82) #[] #[]], bk b4 134 [.func (.func 82) #[] #[]]]
      (fun x => rwAt a t x ∧ rwAt b l x) ((mrg rwKey rwKey 0 t 0 l).map (encM a b 2 2)) := by
  refine Iter.intro Tryz.func180 rfl Tryz.ntmps180 rfl ?_
  rintro ly x I w ⟨hpa, hpb⟩ hY M0 hI0
  rw [List.length_map]
  generalize hL : mrg rwKey rwKey 0 t 0 l = Lm at *
  refine wk ?_
  refine CC.loop (X := Nat × Nat × Option Addr × Option Addr × Nat × List Assn)
    (fun s => [(0, .func (.yield ly) #[] #[]), (1, .pointer (some ⟨b1, 0, none⟩)), (2, .pointer (some ⟨b2, 0, none⟩)), (3, .pointer (some ⟨b3, 0, none⟩)), (4, .pointer (some ⟨b4, 0, none⟩))])
    (fun s => [many s.2.2.2.2.2, bk b1 32 [.slice s.2.2.1 (t.length - s.1) (ca - s.1)], bk b2 32 [.slice s.2.2.2.1 (l.length - s.2.1) (cb' - s.2.1)], bk b3 134 [.func (.func 82) #[] #[]], bk b4 134 [.func (.func 82) #[] #[]], exact x])
    (fun s => s.1 ≤ t.length ∧ s.2.1 ≤ l.length ∧ (s.1 < t.length → s.2.2.1 = atP a (s.1 * 2)) ∧ (s.2.1 < l.length → s.2.2.2.1 = atP b (s.2.1 * 2)) ∧ s.2.2.2.2.1 ≤ Lm.length ∧ mrg rwKey rwKey s.1 (t.drop s.1) s.2.1 (l.drop s.2.1) = Lm.drop s.2.2.2.2.1 ∧ I s.2.2.2.2.1 s.2.2.2.2.2)
    (fun s => (t.length - s.1) + (l.length - s.2.1)) (0, 0, a, b, 0, M0) ⟨Nat.zero_le _, Nat.zero_le _, fun h => by
      obtain ⟨g, o, rfl⟩ := rwAt_some hpa (by omega)
      simp [atP_some], fun h => by
      obtain ⟨g, o, rfl⟩ := rwAt_some hpb (by omega)
      simp [atP_some], Nat.zero_le _, by simpa using hL, hI0⟩ ⟨rfl, rfl, rfl, rfl, rfl, trivial⟩ (by simp only [Nat.sub_zero]; exact selA) ?_
  rintro ⟨i, j, sa, sb, k, M⟩ ⟨hi, hj, hsa, hsb, hk, hm, hI⟩
  dsimp only at hi hj hsa hsb hk hm hI ⊢
  by_cases h1 : i < t.length
  · obtain ⟨ga, oa, rfl⟩ := rwAt_some hpa (by omega)
    obtain rfl := hsa h1
    rw [atP_some]
    have eA : t.drop i = t[i] :: t.drop (i + 1) := List.drop_eq_getElem_cons h1
    have nxA : i + 1 < t.length → some (⟨ga, if ca - i = 1 then oa + i * 2 else oa + i * 2 + 1 * 2, none⟩ : Addr) = atP (some ⟨ga, oa, none⟩) ((i + 1) * 2) := fun h => by
      rw [atP_some, if_neg (by omega)]; congr 2; omega
    by_cases h2 : j < l.length
    · obtain ⟨gb, ob', rfl⟩ := rwAt_some hpb (by omega)
      obtain rfl := hsb h2
      rw [atP_some]
      have eB : l.drop j = l[j] :: l.drop (j + 1) := List.drop_eq_getElem_cons h2
      have nxB : j + 1 < l.length → some (⟨gb, if cb' - j = 1 then ob' + j * 2 else ob' + j * 2 + 1 * 2, none⟩ : Addr) = atP (some ⟨gb, ob', none⟩) ((j + 1) * 2) := fun h => by
        rw [atP_some, if_neg (by omega)]; congr 2; omega
      rw [eA, eB, mrg, ← eA, ← eB] at hm
      by_cases h3 : klt (rwKey t[i]) (rwKey l[j]) = true
      · rw [if_pos h3] at hm
        obtain ⟨hk1, hk2, hm2⟩ := drop_cons hm
        have hz : cmpZ (t[i]).key (l[j]).key = -1 := if_pos h3
        refine wk ?_
        refine CC.draw [(0, 1), (1, 1), (2, 0), (3, 1), (5, 1), (6, 1), (7, 0), (8, 1), (4, 2), (9, 2), (10, 2), (11, 0)] mixed rfl (by kernel_rfl) (by kernel_rfl) [bk b1 32 [.slice (some ⟨ga, oa + i * 2, none⟩) (t.length - i) (ca - i)], bk b2 32 [.slice (some ⟨gb, ob' + j * 2, none⟩) (l.length - j) (cb' - j)], bk b3 134 [.func (.func 82) #[] #[]], bk b4 134 [.func (.func 82) #[] #[]], exact x] ?_
        refine hwk ?_
        refine CH.pure rfl (PS.indexAddr (j := 0) rfl rfl rfl rfl (by omega)) ?_
        (apply CH.read; (· rfl); (· apply PS.loadG (vs := (t[i]).cells); (· rfl); (· rfl); (· exact hpa.cells0 (by first | exact pickA | exact updA) h1); (· rfl)); (· exact selA))
        refine hwk ?_
        refine CH.pure rfl (PS.indexAddr (j := 0) rfl rfl rfl rfl (by omega)) ?_
        (apply CH.read; (· rfl); (· apply PS.loadG (vs := (l[j]).cells); (· rfl); (· rfl); (· exact hpb.cells0 (by first | exact pickA | exact updA) h2); (· rfl)); (· exact selA))
        refine CH.chain rfl fun K hK => ?_
        refine CX.callF (k1R_c t[i]) ?_
        rintro _ _ ⟨rfl, rfl⟩
        (refine CX.nil ?_; refine CQ.thenK ?_; apply hK; (· exact selA); clear hK K)
        refine CH.chain rfl fun K hK => ?_
        refine CX.callF (k1R_c l[j]) ?_
        rintro _ _ ⟨rfl, rfl⟩
        (refine CX.nil ?_; refine CQ.thenK ?_; apply hK; (· exact selA); clear hK K)
        refine CH.chain rfl fun K hK => ?_
        refine CX.callA (cmp_c (t[i]).key (l[j]).key) ?_
        rw [hz]
        rintro _ _ ⟨rfl, rfl⟩
        (refine CX.nil ?_; refine CQ.thenK ?_; apply hK; (· exact selA); clear hK K)
        refine hwk ?_
        refine wk ?_
        refine CC.draw [(0, 1), (1, 0), (2, 1), (3, 0), (4, 0), (5, 3)] mixed rfl (by kernel_rfl) (by kernel_rfl) [bk b1 32 [.slice (some ⟨ga, oa + i * 2, none⟩) (t.length - i) (ca - i)]] ?_
        refine hwk ?_
        refine CH.pure rfl (PS.indexAddr (j := 0) rfl rfl rfl rfl (by omega)) ?_
        refine hwk ?_
        refine CH.pure rfl (PS.sliceLo (l := 1) rfl rfl rfl rfl (by omega) (by omega)) ?_
        refine hwk ?_
        refine CH.tail rfl rfl fun K hK => ?_
        refine CX.storeA ?_
        (refine CX.nil ?_; refine CQ.thenK ?_; apply hK; clear hK K)
        refine hwk ?_
        refine wnk ?_
        refine CC.region ?_
        refine wnk ?_
        refine CC.regionI ?_
        refine CXI.ps ?_
        refine CXI.ps ?_
        refine CXI.ps ?_
        refine CXI.yieldM hY (k := k) (M := M) (vs := [.pointer (some ⟨ga, oa + i * 2, none⟩), .pointer none]) (by rw [List.getElem?_map, hk2]; simp [encM, atP_some]) hI ?_
        intro M' hI'
        refine CXI.ps ?_
        refine CXI.nil ?_
        refine wnk ?_
        exact CQ.round (x := (i, j, some ⟨ga, oa + i * 2, none⟩, some ⟨gb, ob' + j * 2, none⟩, k, M)) (i + 1, j, some ⟨ga, if ca - i = 1 then oa + i * 2 else oa + i * 2 + 1 * 2, none⟩, some ⟨gb, ob' + j * 2, none⟩, k + 1, M') ⟨by dsimp only; omega, by dsimp only; omega, nxA, fun _ => by rw [atP_some], by dsimp only; omega, hm2, hI'⟩ (by dsimp only; omega) ⟨rfl, rfl, rfl, rfl, rfl, trivial⟩ (by (try simp only [Nat.sub_sub]); exact selA)
      · rw [if_neg h3] at hm
        by_cases h4 : rwKey t[i] = rwKey l[j]
        · rw [if_pos h4] at hm
          obtain ⟨hk1, hk2, hm2⟩ := drop_cons hm
          have hz : cmpZ (t[i]).key (l[j]).key = 0 := (if_neg h3).trans (if_pos h4)
          refine wk ?_
          refine CC.draw [(0, 1), (1, 1), (2, 0), (3, 1), (5, 1), (6, 1), (7, 0), (8, 1), (4, 2), (9, 2), (10, 2), (11, 0)] mixed rfl (by kernel_rfl) (by kernel_rfl) [bk b1 32 [.slice (some ⟨ga, oa + i * 2, none⟩) (t.length - i) (ca - i)], bk b2 32 [.slice (some ⟨gb, ob' + j * 2, none⟩) (l.length - j) (cb' - j)], bk b3 134 [.func (.func 82) #[] #[]], bk b4 134 [.func (.func 82) #[] #[]], exact x] ?_
          refine hwk ?_
          refine CH.pure rfl (PS.indexAddr (j := 0) rfl rfl rfl rfl (by omega)) ?_
          (apply CH.read; (· rfl); (· apply PS.loadG (vs := (t[i]).cells); (· rfl); (· rfl); (· exact hpa.cells0 (by first | exact pickA | exact updA) h1); (· rfl)); (· exact selA))
          refine hwk ?_
          refine CH.pure rfl (PS.indexAddr (j := 0) rfl rfl rfl rfl (by omega)) ?_
          (apply CH.read; (· rfl); (· apply PS.loadG (vs := (l[j]).cells); (· rfl); (· rfl); (· exact hpb.cells0 (by first | exact pickA | exact updA) h2); (· rfl)); (· exact selA))
          refine CH.chain rfl fun K hK => ?_
          refine CX.callF (k1R_c t[i]) ?_
          rintro _ _ ⟨rfl, rfl⟩
          (refine CX.nil ?_; refine CQ.thenK ?_; apply hK; (· exact selA); clear hK K)
          refine CH.chain rfl fun K hK => ?_
          refine CX.callF (k1R_c l[j]) ?_
          rintro _ _ ⟨rfl, rfl⟩
          (refine CX.nil ?_; refine CQ.thenK ?_; apply hK; (· exact selA); clear hK K)
          refine CH.chain rfl fun K hK => ?_
          refine CX.callA (cmp_c (t[i]).key (l[j]).key) ?_
          rw [hz]
          rintro _ _ ⟨rfl, rfl⟩
          (refine CX.nil ?_; refine CQ.thenK ?_; apply hK; (· exact selA); clear hK K)
          refine hwk ?_
          refine wk ?_
          refine CC.draw [(0, 1), (1, 0), (2, 1), (3, 0), (4, 0), (5, 3)] mixed rfl (by kernel_rfl) (by kernel_rfl) [bk b1 32 [.slice (some ⟨ga, oa + i * 2, none⟩) (t.length - i) (ca - i)]] ?_
          refine hwk ?_
          refine CH.pure rfl (PS.indexAddr (j := 0) rfl rfl rfl rfl (by omega)) ?_
          refine hwk ?_
          refine CH.pure rfl (PS.sliceLo (l := 1) rfl rfl rfl rfl (by omega) (by omega)) ?_
          refine hwk ?_
          refine CH.tail rfl rfl fun K hK => ?_
          refine CX.storeA ?_
          (refine CX.nil ?_; refine CQ.thenK ?_; apply hK; clear hK K)
          refine hwk ?_
          refine wnk ?_
          refine CC.region ?_
          refine wnk ?_
          refine CC.draw [(0, 1), (1, 0), (2, 1), (3, 0), (4, 0), (5, 3)] mixed rfl (by kernel_rfl) (by kernel_rfl) [bk b2 32 [.slice (some ⟨gb, ob' + j * 2, none⟩) (l.length - j) (cb' - j)]] ?_
          refine hwk ?_
          refine CH.pure rfl (PS.indexAddr (j := 0) rfl rfl rfl rfl (by omega)) ?_
          refine hwk ?_
          refine CH.pure rfl (PS.sliceLo (l := 1) rfl rfl rfl rfl (by omega) (by omega)) ?_
          refine hwk ?_
          refine CH.tail rfl rfl fun K hK => ?_
          refine CX.storeA ?_
          (refine CX.nil ?_; refine CQ.thenK ?_; apply hK; clear hK K)
          refine hwk ?_
          refine wnk ?_
          refine CC.regionI ?_
          refine CXI.ps ?_
          refine CXI.ps ?_
          refine CXI.ps ?_
          refine CXI.yieldM hY (k := k) (M := M) (vs := [.pointer (some ⟨ga, oa + i * 2, none⟩), .pointer (some ⟨gb, ob' + j * 2, none⟩)]) (by rw [List.getElem?_map, hk2]; simp [encM, atP_some]) hI ?_
          intro M' hI'
          refine CXI.ps ?_
          refine CXI.nil ?_
          refine wnk ?_
          exact CQ.round (x := (i, j, some ⟨ga, oa + i * 2, none⟩, some ⟨gb, ob' + j * 2, none⟩, k, M)) (i + 1, j + 1, some ⟨ga, if ca - i = 1 then oa + i * 2 else oa + i * 2 + 1 * 2, none⟩, some ⟨gb, if cb' - j = 1 then ob' + j * 2 else ob' + j * 2 + 1 * 2, none⟩, k + 1, M') ⟨by dsimp only; omega, by dsimp only; omega, nxA, nxB, by dsimp only; omega, hm2, hI'⟩ (by dsimp only; omega) ⟨rfl, rfl, rfl, rfl, rfl, trivial⟩ (by (try simp only [Nat.sub_sub]); exact selA)
        · rw [if_neg h4] at hm
          obtain ⟨hk1, hk2, hm2⟩ := drop_cons hm
          have hz : cmpZ (t[i]).key (l[j]).key = 1 := (if_neg h3).trans (if_neg h4)
          refine wk ?_
          refine CC.draw [(0, 1), (1, 1), (2, 0), (3, 1), (5, 1), (6, 1), (7, 0), (8, 1), (4, 2), (9, 2), (10, 2), (11, 0)] mixed rfl (by kernel_rfl) (by kernel_rfl) [bk b1 32 [.slice (some ⟨ga, oa + i * 2, none⟩) (t.length - i) (ca - i)], bk b2 32 [.slice (some ⟨gb, ob' + j * 2, none⟩) (l.length - j) (cb' - j)], bk b3 134 [.func (.func 82) #[] #[]], bk b4 134 [.func (.func 82) #[] #[]], exact x] ?_
          refine hwk ?_
          refine CH.pure rfl (PS.indexAddr (j := 0) rfl rfl rfl rfl (by omega)) ?_
          (apply CH.read; (· rfl); (· apply PS.loadG (vs := (t[i]).cells); (· rfl); (· rfl); (· exact hpa.cells0 (by first | exact pickA | exact updA) h1); (· rfl)); (· exact selA))
          refine hwk ?_
          refine CH.pure rfl (PS.indexAddr (j := 0) rfl rfl rfl rfl (by omega)) ?_
          (apply CH.read; (· rfl); (· apply PS.loadG (vs := (l[j]).cells); (· rfl); (· rfl); (· exact hpb.cells0 (by first | exact pickA | exact updA) h2); (· rfl)); (· exact selA))
          refine CH.chain rfl fun K hK => ?_
          refine CX.callF (k1R_c t[i]) ?_
          rintro _ _ ⟨rfl, rfl⟩
          (refine CX.nil ?_; refine CQ.thenK ?_; apply hK; (· exact selA); clear hK K)
          refine CH.chain rfl fun K hK => ?_
          refine CX.callF (k1R_c l[j]) ?_
          rintro _ _ ⟨rfl, rfl⟩
          (refine CX.nil ?_; refine CQ.thenK ?_; apply hK; (· exact selA); clear hK K)
          refine CH.chain rfl fun K hK => ?_
          refine CX.callA (cmp_c (t[i]).key (l[j]).key) ?_
          rw [hz]
          rintro _ _ ⟨rfl, rfl⟩
          (refine CX.nil ?_; refine CQ.thenK ?_; apply hK; (· exact selA); clear hK K)
          refine hwk ?_
          refine wk ?_
          refine CC.draw [(0, 1), (1, 0), (2, 1), (3, 0), (4, 0), (5, 3)] mixed rfl (by kernel_rfl) (by kernel_rfl) [bk b2 32 [.slice (some ⟨gb, ob' + j * 2, none⟩) (l.length - j) (cb' - j)]] ?_
          refine hwk ?_
          refine CH.pure rfl (PS.indexAddr (j := 0) rfl rfl rfl rfl (by omega)) ?_
          refine hwk ?_
          refine CH.pure rfl (PS.sliceLo (l := 1) rfl rfl rfl rfl (by omega) (by omega)) ?_
          refine hwk ?_
          refine CH.tail rfl rfl fun K hK => ?_
          refine CX.storeA ?_
          (refine CX.nil ?_; refine CQ.thenK ?_; apply hK; clear hK K)
          refine hwk ?_
          refine wnk ?_
          refine CC.regionI ?_
          refine CXI.ps ?_
          refine CXI.ps ?_
          refine CXI.ps ?_
          refine CXI.yieldM hY (k := k) (M := M) (vs := [.pointer none, .pointer (some ⟨gb, ob' + j * 2, none⟩)]) (by rw [List.getElem?_map, hk2]; simp [encM, atP_some]) hI ?_
          intro M' hI'
          refine CXI.ps ?_
          refine CXI.nil ?_
          refine wnk ?_
          exact CQ.round (x := (i, j, some ⟨ga, oa + i * 2, none⟩, some ⟨gb, ob' + j * 2, none⟩, k, M)) (i, j + 1, some ⟨ga, oa + i * 2, none⟩, some ⟨gb, if cb' - j = 1 then ob' + j * 2 else ob' + j * 2 + 1 * 2, none⟩, k + 1, M') ⟨by dsimp only; omega, by dsimp only; omega, (fun _ => by rw [atP_some]), nxB, by dsimp only; omega, hm2, hI'⟩ (by dsimp only; omega) ⟨rfl, rfl, rfl, rfl, rfl, trivial⟩ (by (try simp only [Nat.sub_sub]); exact selA)
    · obtain rfl : j = l.length := by omega
      rw [eA, List.drop_length, mrg] at hm
      obtain ⟨hk1, hk2, hm2⟩ := drop_cons hm
      refine wk ?_
      refine CC.draw [(0, 1), (1, 0), (2, 1), (3, 0), (4, 0), (5, 3)] mixed rfl (by kernel_rfl) (by kernel_rfl) [bk b1 32 [.slice (some ⟨ga, oa + i * 2, none⟩) (t.length - i) (ca - i)]] ?_
      refine hwk ?_
      refine CH.pure rfl (PS.indexAddr (j := 0) rfl rfl rfl rfl (by omega)) ?_
      refine hwk ?_
      refine CH.pure rfl (PS.sliceLo (l := 1) rfl rfl rfl rfl (by omega) (by omega)) ?_
      refine hwk ?_
      refine CH.tail rfl rfl fun K hK => ?_
      refine CX.storeA ?_
      (refine CX.nil ?_; refine CQ.thenK ?_; apply hK; clear hK K)
      refine hwk ?_
      refine wnk ?_
      refine CC.region ?_
      refine wnk ?_
      refine CC.regionI ?_
      refine CXI.ps ?_
      refine CXI.ps ?_
      refine CXI.ps ?_
      refine CXI.yieldM hY (k := k) (M := M) (vs := [.pointer (some ⟨ga, oa + i * 2, none⟩), .pointer none]) (by rw [List.getElem?_map, hk2]; simp [encM, atP_some]) hI ?_
      intro M' hI'
      refine CXI.ps ?_
      refine CXI.nil ?_
      refine wnk ?_
      exact CQ.round (x := (i, l.length, some ⟨ga, oa + i * 2, none⟩, sb, k, M)) (i + 1, l.length, some ⟨ga, if ca - i = 1 then oa + i * 2 else oa + i * 2 + 1 * 2, none⟩, sb, k + 1, M') ⟨by dsimp only; omega, by dsimp only; omega, nxA, (fun h => by dsimp only at h; omega), by dsimp only; omega, by dsimp only; rw [List.drop_length]; exact hm2, hI'⟩ (by dsimp only; omega) ⟨rfl, rfl, rfl, rfl, rfl, trivial⟩ (by (try simp only [Nat.sub_sub]); exact selA)
  · obtain rfl : i = t.length := by omega
    by_cases h2 : j < l.length
    · obtain ⟨gb, ob', rfl⟩ := rwAt_some hpb (by omega)
      obtain rfl := hsb h2
      rw [atP_some]
      have eB : l.drop j = l[j] :: l.drop (j + 1) := List.drop_eq_getElem_cons h2
      have nxB : j + 1 < l.length → some (⟨gb, if cb' - j = 1 then ob' + j * 2 else ob' + j * 2 + 1 * 2, none⟩ : Addr) = atP (some ⟨gb, ob', none⟩) ((j + 1) * 2) := fun h => by
        rw [atP_some, if_neg (by omega)]; congr 2; omega
      rw [eB, List.drop_length, mrg] at hm
      obtain ⟨hk1, hk2, hm2⟩ := drop_cons hm
      refine wk ?_
      refine CC.draw [(0, 1), (1, 0), (2, 1), (3, 0), (4, 0), (5, 3)] mixed rfl (by kernel_rfl) (by kernel_rfl) [bk b2 32 [.slice (some ⟨gb, ob' + j * 2, none⟩) (l.length - j) (cb' - j)]] ?_
      refine hwk ?_
      refine CH.pure rfl (PS.indexAddr (j := 0) rfl rfl rfl rfl (by omega)) ?_
      refine hwk ?_
      refine CH.pure rfl (PS.sliceLo (l := 1) rfl rfl rfl rfl (by omega) (by omega)) ?_
      refine hwk ?_
      refine CH.tail rfl rfl fun K hK => ?_
      refine CX.storeA ?_
      (refine CX.nil ?_; refine CQ.thenK ?_; apply hK; clear hK K)
      refine hwk ?_
      refine wnk ?_
      refine CC.regionI ?_
      refine CXI.ps ?_
      refine CXI.ps ?_
      refine CXI.ps ?_
      refine CXI.yieldM hY (k := k) (M := M) (vs := [.pointer none, .pointer (some ⟨gb, ob' + j * 2, none⟩)]) (by rw [List.getElem?_map, hk2]; simp [encM, atP_some]) hI ?_
      intro M' hI'
      refine CXI.ps ?_
      refine CXI.nil ?_
      refine wnk ?_
      exact CQ.round (x := (t.length, j, sa, some ⟨gb, ob' + j * 2, none⟩, k, M)) (t.length, j + 1, sa, some ⟨gb, if cb' - j = 1 then ob' + j * 2 else ob' + j * 2 + 1 * 2, none⟩, k + 1, M') ⟨by dsimp only; omega, by dsimp only; omega, (fun h => by dsimp only at h; omega), nxB, by dsimp only; omega, by dsimp only; rw [List.drop_length]; exact hm2, hI'⟩ (by dsimp only; omega) ⟨rfl, rfl, rfl, rfl, rfl, trivial⟩ (by (try simp only [Nat.sub_sub]); exact selA)
    · obtain rfl : j = l.length := by omega
      rw [List.drop_length, List.drop_length, mrg] at hm
      have : Lm.length ≤ k := by
        rcases Nat.lt_or_ge k Lm.length with h | h
        · rw [List.drop_eq_getElem_cons h] at hm; cases hm
        · exact h
      refine wk ?_
      exact CQ.endIter rfl hI (by omega)
end Go.Proofs.YtlckhaodecdbbaaGreatDoor
/-! A table behind changes (batch.Apply), in the program. -/
namespace Go.Cx
theorem mrg_fact {α β : Type} (ka : α → Blk) (kb : β → Blk) : ∀ (i : Nat) (t : List α) (j : Nat) (l : List β), ∀ p ∈ mrg ka kb i t j l,
    (∀ n x, p.1 = some (n, x) → ∃ m, n = i + m ∧ t[m]? = some x) ∧ (∀ n y, p.2 = some (n, y) → ∃ m, n = j + m ∧ l[m]? = some y) ∧ ¬ (p.1 = none ∧ p.2 = none) := by
  have up : ∀ {γ : Type} {i n : Nat} {x z : γ} {s : List γ}, (∃ m, n = i + 1 + m ∧ s[m]? = some x) → ∃ m, n = i + m ∧ (z :: s)[m]? = some x := fun ⟨m, h1, h2⟩ => ⟨m + 1, by omega, by simpa using h2⟩
  intro i t j l
  induction i, t, j, l using mrg.induct (ka := ka) (kb := kb) with
  | case1 => intro p hp; rw [mrg] at hp; cases hp
  | case2 i j x t ih =>
    intro p hp
    rw [mrg] at hp
    rcases List.mem_cons.1 hp with rfl | hp
    · exact ⟨fun n y h => by cases h; exact ⟨0, rfl, rfl⟩, fun n y h => by simp at h, by simp⟩
    · obtain ⟨h1, h2, h3⟩ := ih p hp
      exact ⟨fun n y h => up (h1 n y h), h2, h3⟩
  | case3 i j y l ih =>
    intro p hp
    rw [mrg] at hp
    rcases List.mem_cons.1 hp with rfl | hp
    · exact ⟨fun n y h => by simp at h, fun n y h => by cases h; exact ⟨0, rfl, rfl⟩, by simp⟩
    · obtain ⟨h1, h2, h3⟩ := ih p hp
      exact ⟨h1, fun n y h => up (h2 n y h), h3⟩
  | case4 i x t j y l hk ih =>
    intro p hp
    rw [mrg, if_pos hk] at hp
    rcases List.mem_cons.1 hp with rfl | hp
    · exact ⟨fun n y h => by cases h; exact ⟨0, rfl, rfl⟩, fun n y h => by simp at h, by simp⟩
    · obtain ⟨h1, h2, h3⟩ := ih p hp
      exact ⟨fun n y h => up (h1 n y h), h2, h3⟩
  | case5 i x t j y l hk he ih =>
    intro p hp
    rw [mrg, if_neg hk, if_pos he] at hp
    rcases List.mem_cons.1 hp with rfl | hp
    · exact ⟨fun n y h => by cases h; exact ⟨0, rfl, rfl⟩, fun n y h => by cases h; exact ⟨0, rfl, rfl⟩, by simp⟩
    · obtain ⟨h1, h2, h3⟩ := ih p hp
      exact ⟨fun n y h => up (h1 n y h), fun n y h => up (h2 n y h), h3⟩
  | case6 i x t j y l hk he ih =>
    intro p hp
    rw [mrg, if_neg hk, if_neg he] at hp
    rcases List.mem_cons.1 hp with rfl | hp
    · exact ⟨fun n y h => by simp at h, fun n y h => by cases h; exact ⟨0, rfl, rfl⟩, by simp⟩
    · obtain ⟨h1, h2, h3⟩ := ih p hp
      exact ⟨h1, fun n y h => up (h2 n y h), h3⟩
/-- What Apply lays for what is handed out. -/
def outA : Option (Nat × RwV) × Option (Nat × ChV) → Tab
  | (_, some (_, y)) => if y.gone then [] else [(y.key, y.s.b)]
  | (some (_, x), none) => [x.m]
  | (none, none) => []
theorem applyM_nil (t : Tab) : applyM t [] = t := by cases t <;> rw [applyM]
theorem out_apply : ∀ (i : Nat) (t : List RwV) (j : Nat) (l : List ChV), ((mrg rwKey chKey i t j l).map outA).flatten = applyM (t.map RwV.m) (l.map ChV.m) := by
  intro i t j l
  induction i, t, j, l using mrg.induct (ka := rwKey) (kb := chKey) with
  | case1 => rw [mrg]; simp [applyM]
  | case2 i j x t ih =>
    rw [mrg, List.map_cons, List.flatten_cons, ih]
    simp only [List.map_nil, applyM_nil, List.map_cons]; rfl
  | case3 i j y l ih =>
    rw [mrg, List.map_cons, List.flatten_cons, ih]
    simp only [List.map_nil, List.map_cons]
    rw [applyM]
    simp only [outA, ChV.m]
    by_cases hg : y.gone = true <;> simp [hg]
  | case4 i x t j y l hk ih =>
    rw [mrg, if_pos hk, List.map_cons, List.flatten_cons, ih]
    simp only [List.map_cons]
    rw [applyM, if_pos (show klt x.m.1 y.m.key = true from hk)]; rfl
  | case5 i x t j y l hk he ih =>
    rw [mrg, if_neg hk, if_pos he, List.map_cons, List.flatten_cons, ih]
    simp only [List.map_cons]
    rw [applyM, if_neg (show ¬ klt x.m.1 y.m.key = true from hk), if_pos (show x.m.1 = y.m.key from he)]
    simp only [outA, ChV.m]
    by_cases hg : y.gone = true <;> simp [hg]
  | case6 i x t j y l hk he ih =>
    rw [mrg, if_neg hk, if_neg he, List.map_cons, List.flatten_cons, ih]
    simp only [List.map_cons]
    rw [applyM, if_neg (show ¬ klt x.m.1 y.m.key = true from hk), if_neg (show ¬ x.m.1 = y.m.key from he)]
    simp only [outA, ChV.m]
    by_cases hg : y.gone = true <;> simp [hg]
theorem mrg_len {α β : Type} (ka : α → Blk) (kb : β → Blk) : ∀ (i : Nat) (t : List α) (j : Nat) (l : List β), (mrg ka kb i t j l).length ≤ t.length + l.length := by
  intro i t j l
  induction i, t, j, l using mrg.induct (ka := ka) (kb := kb) with
  | case1 => rw [mrg]; simp
  | case2 i j x t ih => rw [mrg]; simp at ih ⊢; omega
  | case3 i j y l ih => rw [mrg]; simp at ih ⊢; omega
  | case4 i x t j y l hk ih => rw [mrg, if_pos hk]; simp at ih ⊢; omega
  | case5 i x t j y l hk he ih => rw [mrg, if_neg hk, if_pos he]; simp at ih ⊢; omega
  | case6 i x t j y l hk he ih => rw [mrg, if_neg hk, if_neg he]; simp at ih ⊢; omega
theorem valR_snoc {e c : Nat} {a : Option Addr} {b k : Blk} {l : List RwV} (h : PH) (s : (valR l).ok h) (t : (own e 1 a b.length c (cb b)).ok h) : (valR (l ++ [⟨k, ⟨a, b, c⟩⟩])).ok h := valR_ok.2 fun r hr => by
  rcases List.mem_append.1 hr with hr | hr
  · exact valR_ok.1 s r hr
  · obtain rfl := List.mem_singleton.1 hr
    exact own_SlB t
end Go.Cx
namespace Go.Proofs.YtlckhaodecdbbaaGreatDoor
open Go.Cx
attribute [local irreducible] Go.Cx.CX Go.Cx.CC Go.Cx.CQ Go.Cx.PS Go.Cx.Ctr Go.Cx.CH
set_option maxRecDepth 10000
theorem clone_c (s : SlB) (hl : s.b.length ≤ 1073741824) : Ctr Tryz.prog 84 [.slice s.a s.b.length s.c] [] (fun x => s.ok x) (fun v M => ∃ a c, v = .slice a s.b.length c ∧ M = [own 5 1 a s.b.length c (cb s.b)]) := by
  obtain ⟨a, b, c⟩ := s
  dsimp only at hl ⊢
  refine Ctr.intro Tryz.func84 rfl Tryz.ntmps84 rfl fun x w hp => ?_
  cases a with
  | none =>
    obtain ⟨h1, h2⟩ := hp.nil rfl
    dsimp only at h1 h2
    subst h1; subst h2
    refine wk ?_
    refine CQ.ownNil 5 1 ?_
    (apply CQ.end1; (· rfl); (· exact .tmp rfl))
    · exact ⟨none, 0, rfl, rfl⟩
    · exact selA
  | some ad =>
    refine wk ?_
    refine CX.buildSl0 ?_
    intro q
    refine wk ?_
    refine CX.append (m := b.length) (news := cb b) rfl rfl rfl (by first | exact pickA | exact updA) (rdS_of (rdx_ex (by first | exact pickA | exact updA) hp.r) rfl) (by omega) (fun h => by cases h) ?_
    intro a' c'
    rw [List.nil_append, Nat.zero_add]
    refine wk ?_
    (apply CQ.end1; (· rfl); (· exact .tmp rfl))
    · exact ⟨a', c', rfl, rfl⟩
    · exact selA
theorem mergC_c (t u : Value) (ht : t.cells = #[t]) (hu : u.cells = #[u]) : Ctr Tryz.prog 81 [t, u, .func (.func 82) #[] #[], .func (.func 83) #[] #[]] [] (fun _ => True)
    (fun v M => ∃ b1 b2 b3 b4, v = .func (.func 125) #[] #[.pointer (some ⟨b1, 0, none⟩), .pointer (some ⟨b2, 0, none⟩), .pointer (some ⟨b3, 0, none⟩), .pointer (some ⟨b4, 0, none⟩)] ∧
      M = [bk b1 32 [t], bk b2 34 [u], bk b3 134 [.func (.func 82) #[] #[]], bk b4 127 [.func (.func 83) #[] #[]]]) := by
  refine Ctr.intro Tryz.func81 rfl Tryz.ntmps81 rfl fun x w hp => ?_
  refine wk ?_
  (apply CX.box; (· rfl); (· rfl); intro b1)
  (apply CX.box; (· rfl); (· rfl); intro b2)
  rw [ht, hu]
  (apply CX.box; (· rfl); (· rfl); intro b3)
  (apply CX.box; (· rfl); (· rfl); intro b4)
  refine wk ?_
  (apply CQ.end1; (· rfl); (· exact .tmp rfl))
  · exact ⟨b1, b2, b3, b4, rfl, rfl⟩
  · exact selA
def AppliedP (t : List RwV) (l : List ChV) (v : Value) (M : List Assn) : Prop :=
  (¬ (MayR (t.map RwV.m) ∧ MayC (l.map ChV.m)) → v = .tuple #[.slice none 0 0, .int .i64 2] ∧ M = []) ∧
  (MayR (t.map RwV.m) ∧ MayC (l.map ChV.m) → ∃ a c r, r.map RwV.m = applyM (t.map RwV.m) (l.map ChV.m) ∧ v = .tuple #[.slice a r.length c, .int .i64 0] ∧ M = [tabA a r] ∧ (a = none → r.length = 0 ∧ c = 0) ∧ r.length ≤ c ∧ r.length ≤ t.length + l.length)
theorem apply_c (t : List RwV) (l : List ChV) (ht : t.length ≤ 1073741824) (hl : l.length ≤ 1073741824) (a b : Option Addr) (ca cb' : Nat) (hca : t.length ≤ ca) (hcb : l.length ≤ cb') :
    Ctr Tryz.prog 46 [.slice a t.length ca, .slice b l.length cb'] [] (fun x => rwAt a t x ∧ chAt b l x) (AppliedP t l) := by
  unfold AppliedP
  refine Ctr.introM Tryz.func46 rfl Tryz.ntmps46 rfl fun x w hp => ?_
  obtain ⟨hpa, hpb⟩ := hp
  refine wk ?_
  refine CX.callA (mayR_c t (by omega) a ca) ?_ (hpre := by exact rw_ex (by first | exact pickA | exact updA) hpa)
  by_cases hmt : MayR (t.map RwV.m)
  rotate_left
  · rw [decide_eq_false hmt]
    rintro _ _ ⟨rfl, rfl⟩
    refine wk ?_
    refine CQ.endM2 rfl (.tmp rfl) (.tmp rfl) ⟨fun _ => ⟨rfl, rfl⟩, fun h => absurd h.1 hmt⟩ (by exact selA)
  rw [decide_eq_true hmt]
  rintro _ _ ⟨rfl, rfl⟩
  refine wk ?_
  refine CX.callA (mayC_c l (by omega) b cb') ?_ (hpre := by exact ch_ex (by first | exact pickA | exact updA) hpb)
  by_cases hml : MayC (l.map ChV.m)
  rotate_left
  · rw [decide_eq_false hml]
    rintro _ _ ⟨rfl, rfl⟩
    refine wk ?_
    refine CQ.endM2 rfl (.tmp rfl) (.tmp rfl) ⟨fun _ => ⟨rfl, rfl⟩, fun h => absurd h.2 hml⟩ (by exact selA)
  rw [decide_eq_true hml]
  rintro _ _ ⟨rfl, rfl⟩
  refine wk ?_
  refine CX.allocZ [.slice none 0 0] ?_ (hv := rfl)
  intro b6
  refine wk ?_
  refine CX.callA (mergC_c (.slice a t.length ca) (.slice b l.length cb') rfl rfl) ?_
  rintro _ _ ⟨b1, b2, b3, b4, rfl, rfl⟩
  refine wk ?_
  refine CC.ownNil 71 2 ?_
  refine CC.give (valR []) (fun _ => valR_ok.2 fun _ h => by cases h) ?_
  have hLl := mrg_len rwKey chKey 0 t 0 l
  have hfact := mrg_fact rwKey chKey 0 t 0 l
  have hall := out_apply 0 t 0 l
  have It := itC_c t l ht hl a b ca cb' hca hcb b1 b2 b3 b4
  generalize mrg rwKey chKey 0 t 0 l = Lm at *
  refine CC.range It rfl (fun k M => ∃ a1 c1 r, M = [bk b6 32 [.slice a1 r.length c1], own 71 2 a1 r.length c1 (rows RwV.cells r), valR r] ∧ r.map RwV.m = ((Lm.take k).map outA).flatten ∧ r.length ≤ k)
    (M0 := [bk b6 32 [.slice none 0 0], own 71 2 none 0 0 [], valR []]) ⟨none, 0, [], rfl, rfl, Nat.le_refl _⟩ (by exact selA) (fun y hy => ⟨rw_ex (by first | exact pickA | exact updA) hpa y hy, ch_ex (by first | exact pickA | exact updA) hpb y hy⟩) (fun v hv => by
      obtain ⟨p, _, rfl⟩ := List.mem_map.1 hv; rfl) ?_ ?_
  · rintro ly ⟨st, pd, rfn, rtm, rps, ras, rbd, rdf⟩ k v M y e1 hk ⟨a1, c1, r, rfl, hr, hrk⟩ hst hpd hy
    dsimp only at hst hpd
    subst hst; subst hpd
    rw [List.getElem?_map, Option.map_eq_some_iff] at hk
    obtain ⟨p, hk, rfl⟩ := hk
    have hkl : k < Lm.length := (List.getElem?_eq_some_iff.1 hk).1
    have hpL : p ∈ Lm := List.mem_of_getElem? hk
    obtain ⟨hf1, hf2, hf3⟩ := hfact p hpL
    have hout : ((Lm.take (k + 1)).map outA).flatten = ((Lm.take k).map outA).flatten ++ outA p := by
      rw [List.take_succ_eq_append_getElem hkl, (List.getElem?_eq_some_iff.1 hk).2]; simp
    have hya : rwAt a t y := rw_ex (show Pick (exact x) _ _ from by first | exact pickA | exact updA) hpa y hy
    have hyb : chAt b l y := ch_ex (show Pick (exact x) _ _ from by first | exact pickA | exact updA) hpb y hy
    clear hy
    obtain ⟨p1, p2⟩ := p
    cases p2 with
    | none =>
      cases p1 with
      | none => exact absurd ⟨rfl, rfl⟩ hf3
      | some q =>
        obtain ⟨n, z⟩ := q
        obtain ⟨m, rfl, hz⟩ := hf1 n z rfl
        obtain ⟨hm, rfl⟩ := List.getElem?_eq_some_iff.1 hz
        obtain ⟨ga, oa, rfl⟩ := rwAt_some hya (by omega)
        have hval : (t[m]).s.b.length ≤ 1073741824 := by
          have := (hmt.2 (t[m]).m (List.mem_map_of_mem (List.getElem_mem hm))).2.2
          have e : (t[m]).m.2.length = (t[m]).s.b.length := rfl
          omega
        have hzs := hya.2 t[m] (List.getElem_mem hm)
        simp only [encM, Option.bind_some, Option.bind_none, atP_some, Nat.zero_add, putEs]
        refine wqk ?_
        refine CQ.begin rfl (by first | exact pickA | exact updA) ?_
        refine wqk ?_
        refine CR.draw [(0, 1), (1, 0), (2, 0), (3, 0), (4, 1), (5, 0), (6, 0), (7, 0), (8, 1), (9, 2), (10, 0), (11, 2), (12, 2), (13, 3)] mixed rfl (by kernel_rfl) (by kernel_rfl) [bk b6 32 [.slice a1 r.length c1], exact y] ?_
        refine hwk ?_
        (apply CH.read; (· rfl); (· apply PS.load (v := sv (t[m]).key); (· rfl); (· rfl); (· exact hya.cell (by first | exact pickA | exact updA) hm 0 rfl)); (· exact selA))
        refine hwk ?_
        (apply CH.read; (· rfl); (· apply PS.load (v := .slice (t[m]).s.a (t[m]).s.b.length (t[m]).s.c); (· rfl); (· rfl); (· exact hya.cell (by first | exact pickA | exact updA) hm 1 rfl)); (· exact selA))
        refine CH.chain rfl fun K hK => ?_
        refine CX.callA (clone_c (t[m]).s hval) ?_ (hpre := by exact fun z hz => (hzs).mono (Pick.ok (show Pick (exact y) _ _ from by first | exact pickA | exact updA) hz))
        rintro _ _ ⟨a2, c2, rfl, rfl⟩
        (refine CX.nil ?_; refine CQ.thenK ?_; apply hK; (· exact selA); clear hK K)
        refine CH.pure rfl (PS.build (vs := [(0, sv (t[m]).key), (1, .slice a2 (t[m]).s.b.length c2)]) (out := [sv (t[m]).key, .slice a2 (t[m]).s.b.length c2]) rfl rfl rfl) ?_
        refine CH.chain rfl fun K hK => ?_
        refine CX.buildSl (parts := [(0, _)]) (vs := [(0, .agg #[sv (t[m]).key, .slice a2 (t[m]).s.b.length c2])]) (out := [sv (t[m]).key, .slice a2 (t[m]).s.b.length c2]) rfl rfl (by decide) (by simp [fillL, Value.cells, setL]) fun bq => ?_
        (refine CX.nil ?_; refine CQ.thenK ?_; apply hK; (· exact selA); clear hK K)
        refine CH.chain rfl fun K hK => ?_
        refine CX.append (m := 1) (news := [sv (t[m]).key, .slice a2 (t[m]).s.b.length c2]) rfl rfl rfl (by first | exact pickA | exact updA) (RdS.pick (b := bq) (o := 0) (by first | exact pickA | exact updA) rfl (one_all rfl) rfl) (by omega) (fun h => by cases h) ?_
        intro a3 c3
        refine CX.merge (valR (r ++ [⟨(t[m]).key, ⟨a2, (t[m]).s.b, c2⟩⟩])) valR_snoc ?_
        (refine CX.nil ?_; refine CQ.thenK ?_; apply hK; (· exact selA); clear hK K)
        refine CH.tail rfl rfl fun K hK => ?_
        refine CX.storeA ?_
        (refine CX.nil ?_; refine CQ.thenK ?_; apply hK; clear hK K)
        refine hwk ?_
        refine wqk ?_
        refine CQ.endRound (by first | exact pickA | exact updA) ⟨rfl, [bk b6 32 [.slice a3 (r.length + 1) c3], own 71 2 a3 (r.length + 1) c3 (rows RwV.cells r ++ [sv (t[m]).key, .slice a2 (t[m]).s.b.length c2]), valR (r ++ [⟨(t[m]).key, ⟨a2, (t[m]).s.b, c2⟩⟩])], rfl, a3, c3, r ++ [⟨(t[m]).key, ⟨a2, (t[m]).s.b, c2⟩⟩], by rw [List.length_append, rows_append]; rfl, by rw [hout, List.map_append, hr]; simp [outA, RwV.m], by simp only [List.length_append, List.length_singleton]; omega⟩ (by exact selA)
    | some q =>
      obtain ⟨n, z⟩ := q
      obtain ⟨m, rfl, hz⟩ := hf2 n z rfl
      obtain ⟨hm, rfl⟩ := List.getElem?_eq_some_iff.1 hz
      obtain ⟨gb, ob', rfl⟩ := chAt_some hyb (by omega)
      have hval : (l[m]).s.b.length ≤ 1073741824 := by
        have := (hml.2 (l[m]).m (List.mem_map_of_mem (List.getElem_mem hm))).v
        have e : (l[m]).m.val.length = (l[m]).s.b.length := rfl
        omega
      have hzs := hyb.2 l[m] (List.getElem_mem hm)
      simp only [encM, Option.bind_some, atP_some, Nat.zero_add, putEs]
      generalize (p1.bind fun q => atP a (q.1 * 2)) = pp
      by_cases hg : (l[m]).gone = true
      · refine wqk ?_
        refine CQ.begin rfl (by first | exact pickA | exact updA) ?_
        refine wqk ?_
        refine CX.loadA (.bool true) (hyb.cell (v := .bool true) (by first | exact pickA | exact updA) hm 2 (by rw [← hg]; rfl)) ?_
        refine wqk ?_
        refine CQ.endRound (by first | exact pickA | exact updA) ⟨rfl, [bk b6 32 [.slice a1 r.length c1], own 71 2 a1 r.length c1 (rows RwV.cells r), valR r], rfl, a1, c1, r, rfl, by rw [hout, hr]; simp [outA, hg], by omega⟩ (by exact selA)
      · have hg' : (l[m]).gone = false := by simpa using hg
        refine wqk ?_
        refine CQ.begin rfl (by first | exact pickA | exact updA) ?_
        refine wqk ?_
        refine CX.loadA (.bool false) (hyb.cell (v := .bool false) (by first | exact pickA | exact updA) hm 2 (by rw [← hg']; rfl)) ?_
        refine wqk ?_
        refine CR.draw [(0, 1), (1, 0), (2, 0), (3, 0), (4, 1), (5, 0), (6, 0), (7, 0), (8, 1), (9, 2), (10, 0), (11, 2), (12, 2), (13, 3)] mixed rfl (by kernel_rfl) (by kernel_rfl) [bk b6 32 [.slice a1 r.length c1], exact y] ?_
        refine hwk ?_
        (apply CH.read; (· rfl); (· apply PS.load (v := sv (l[m]).key); (· rfl); (· rfl); (· exact hyb.cell (by first | exact pickA | exact updA) hm 0 rfl)); (· exact selA))
        refine hwk ?_
        (apply CH.read; (· rfl); (· apply PS.load (v := .slice (l[m]).s.a (l[m]).s.b.length (l[m]).s.c); (· rfl); (· rfl); (· exact hyb.cell (by first | exact pickA | exact updA) hm 1 rfl)); (· exact selA))
        refine CH.chain rfl fun K hK => ?_
        refine CX.callA (clone_c (l[m]).s hval) ?_ (hpre := by exact fun z hz => (hzs).mono (Pick.ok (show Pick (exact y) _ _ from by first | exact pickA | exact updA) hz))
        rintro _ _ ⟨a2, c2, rfl, rfl⟩
        (refine CX.nil ?_; refine CQ.thenK ?_; apply hK; (· exact selA); clear hK K)
        refine CH.pure rfl (PS.build (vs := [(0, sv (l[m]).key), (1, .slice a2 (l[m]).s.b.length c2)]) (out := [sv (l[m]).key, .slice a2 (l[m]).s.b.length c2]) rfl rfl rfl) ?_
        refine CH.chain rfl fun K hK => ?_
        refine CX.buildSl (parts := [(0, _)]) (vs := [(0, .agg #[sv (l[m]).key, .slice a2 (l[m]).s.b.length c2])]) (out := [sv (l[m]).key, .slice a2 (l[m]).s.b.length c2]) rfl rfl (by decide) (by simp [fillL, Value.cells, setL]) fun bq => ?_
        (refine CX.nil ?_; refine CQ.thenK ?_; apply hK; (· exact selA); clear hK K)
        refine CH.chain rfl fun K hK => ?_
        refine CX.append (m := 1) (news := [sv (l[m]).key, .slice a2 (l[m]).s.b.length c2]) rfl rfl rfl (by first | exact pickA | exact updA) (RdS.pick (b := bq) (o := 0) (by first | exact pickA | exact updA) rfl (one_all rfl) rfl) (by omega) (fun h => by cases h) ?_
        intro a3 c3
        refine CX.merge (valR (r ++ [⟨(l[m]).key, ⟨a2, (l[m]).s.b, c2⟩⟩])) valR_snoc ?_
        (refine CX.nil ?_; refine CQ.thenK ?_; apply hK; (· exact selA); clear hK K)
        refine CH.tail rfl rfl fun K hK => ?_
        refine CX.storeA ?_
        (refine CX.nil ?_; refine CQ.thenK ?_; apply hK; clear hK K)
        refine hwk ?_
        refine wqk ?_
        refine CQ.endRound (by first | exact pickA | exact updA) ⟨rfl, [bk b6 32 [.slice a3 (r.length + 1) c3], own 71 2 a3 (r.length + 1) c3 (rows RwV.cells r ++ [sv (l[m]).key, .slice a2 (l[m]).s.b.length c2]), valR (r ++ [⟨(l[m]).key, ⟨a2, (l[m]).s.b, c2⟩⟩])], rfl, a3, c3, r ++ [⟨(l[m]).key, ⟨a2, (l[m]).s.b, c2⟩⟩], by rw [List.length_append, rows_append]; rfl, by rw [hout, List.map_append, hr]; simp [outA, RwV.m, hg'], by simp only [List.length_append, List.length_singleton]; omega⟩ (by exact selA)
  · rintro D M ⟨a1, c1, r, rfl, hr, hrk⟩
    rw [List.length_map] at hr hrk
    rw [List.take_length, hall] at hr
    refine wdk ?_
    refine CQ.fact (own_none (e := 71) (sz := 2) (by first | exact pickA | exact updA)) ?_
    rintro ⟨hn1, hn2, hn3⟩
    refine CQ.merge (tabA a1 r) own_tab ?_
    refine CQ.endD2 rfl (by first | exact pickA | exact updA) (.tmp rfl) (.tmp rfl) ⟨fun h => absurd ⟨hmt, hml⟩ h, fun _ => ⟨a1, c1, r, hr, rfl, rfl, hn1, hn2, by omega⟩⟩ (by exact selA)
end Go.Proofs.YtlckhaodecdbbaaGreatDoor
/-! The statements' own doings of layer 8 (lives), in the program. -/
namespace Go.Cx
theorem bk_rdx8 {b t o len : Nat} {cs vs : List Value} {L M : List Assn} (p : Pick (bk b t cs) L M) (hc : (cs.drop o).take vs.length = vs) : ∀ y, Sep L y → rdx (some ⟨b, o, none⟩) len vs y := fun y hy => by
  obtain ⟨cs', t', fr, e, h⟩ := CellsAt.pick p hc y hy
  exact .inr ⟨b, o, _, _, _, rfl, e, h⟩
theorem slb_bk {b t : Nat} {B : Blk} {L M : List Assn} (p : Pick (bk b t (cb B)) L M) (h : B.length ≤ 1000000) : ∀ y, Sep L y → SlB.ok y ⟨some ⟨b, 0, none⟩, B, B.length⟩ := fun y hy =>
  ⟨(fun h => by cases h), Nat.le_refl _, by show B.length ≤ maxLen; unfold maxLen; omega, bk_rdx8 p (by rw [List.drop_zero, List.take_length]) y hy⟩
theorem slb_nil (y : PH) : SlB.ok y ⟨none, [], 0⟩ := ⟨fun _ => ⟨rfl, rfl⟩, Nat.le_refl _, Nat.zero_le _, .inl rfl⟩
theorem ch_bk {b t : Nat} {l : List ChV} {L M : List Assn} (p : Pick (bk b t (rows ChV.cells l)) L M) (h : ∀ y, Sep L y → ∀ r ∈ l, r.s.ok y) : ∀ y, Sep L y → chAt (some ⟨b, 0, none⟩) l y := fun y hy =>
  ⟨bk_rdx8 p (by simp) y hy, h y hy⟩
theorem rw_bk {b t : Nat} {l : List RwV} {L M : List Assn} (p : Pick (bk b t (rows RwV.cells l)) L M) (h : ∀ y, Sep L y → ∀ r ∈ l, r.s.ok y) : ∀ y, Sep L y → rwAt (some ⟨b, 0, none⟩) l y := fun y hy =>
  ⟨bk_rdx8 p (by simp) y hy, h y hy⟩
theorem okC1 {y : PH} {r : ChV} (h : r.s.ok y) : ∀ q ∈ [r], q.s.ok y := fun q hq => by rw [List.mem_singleton.1 hq]; exact h
theorem okR1 {y : PH} {r : RwV} (h : r.s.ok y) : ∀ q ∈ [r], q.s.ok y := fun q hq => by rw [List.mem_singleton.1 hq]; exact h
theorem okC2 {y : PH} {r s : ChV} (h : r.s.ok y) (k : s.s.ok y) : ∀ q ∈ [r, s], q.s.ok y := fun q hq => by
  simp only [List.mem_cons, List.not_mem_nil, or_false] at hq
  rcases hq with rfl | rfl
  · exact h
  · exact k
def c1M : List ChM := [⟨[97], [7], false⟩]
def c2M : List ChM := [⟨[97], [], true⟩, ⟨[98], [8], false⟩]
theorem may1 : MayC c1M := by decide
theorem may2 : MayC c2M := by decide
theorem may3 : ¬ MayC [⟨[98], [], false⟩, ⟨[97], [], false⟩] := by decide
theorem mayr1 : MayR [([97], [7])] := by decide
theorem put8a : putB c1M = [1, 0, 0, 0, 1, 0, 0, 0, 97, 0, 1, 0, 0, 0, 7] := by decide
theorem got8a : getB (putB c1M) = (c1M, 0) := get_putB may1 (by decide)
theorem app1 : applyM [([97], [7])] c2M = [([98], [8])] := by
  have h : klt [97] [97] = false := by decide
  simp [c2M, applyM, h]
end Go.Cx
namespace Go.Proofs.YtlckhaodecdbbaaGreatDoor
open Go.Cx
attribute [local irreducible] Go.Cx.CX Go.Cx.CC Go.Cx.CQ Go.Cx.PS Go.Cx.Ctr Go.Cx.CH
set_option maxRecDepth 10000
end Go.Proofs.YtlckhaodecdbbaaGreatDoor
/-! Changes between tables (batch.Between, Whole), a key's value (Find), in the program. Printed by bw.py (wip). -/
namespace Go.Cx
/-- What Between lays for what is handed out. -/
def outB : Option (Nat × RwV) × Option (Nat × RwV) → List ChM
  | (some (_, x), none) => [⟨x.key, [], true⟩]
  | (none, some (_, y)) => [⟨y.key, y.s.b, false⟩]
  | (some (_, x), some (_, y)) => if x.s.b = y.s.b then [] else [⟨y.key, y.s.b, false⟩]
  | (none, none) => []
theorem out_between : ∀ (i : Nat) (t : List RwV) (j : Nat) (l : List RwV), ((mrg rwKey rwKey i t j l).map outB).flatten = betweenM (t.map RwV.m) (l.map RwV.m) := by
  intro i t j l
  induction i, t, j, l using mrg.induct (ka := rwKey) (kb := rwKey) with
  | case1 => rw [mrg]; simp [betweenM]
  | case2 i j x t ih =>
    rw [mrg, List.map_cons, List.flatten_cons, ih]
    simp only [List.map_nil, List.map_cons]
    rw [betweenM]; rfl
  | case3 i j y l ih =>
    rw [mrg, List.map_cons, List.flatten_cons, ih]
    simp only [List.map_nil, List.map_cons]
    rw [betweenM]; rfl
  | case4 i x t j y l hk ih =>
    rw [mrg, if_pos hk, List.map_cons, List.flatten_cons, ih]
    simp only [List.map_cons]
    rw [betweenM, if_pos (show klt x.m.1 y.m.1 = true from hk)]; rfl
  | case5 i x t j y l hk he ih =>
    rw [mrg, if_neg hk, if_pos he, List.map_cons, List.flatten_cons, ih]
    simp only [List.map_cons]
    rw [betweenM, if_neg (show ¬ klt x.m.1 y.m.1 = true from hk), if_pos (show x.m.1 = y.m.1 from he)]
    simp only [outB, RwV.m]
    by_cases hg : x.s.b = y.s.b <;> simp [hg]
  | case6 i x t j y l hk he ih =>
    rw [mrg, if_neg hk, if_neg he, List.map_cons, List.flatten_cons, ih]
    simp only [List.map_cons]
    rw [betweenM, if_neg (show ¬ klt x.m.1 y.m.1 = true from hk), if_neg (show ¬ x.m.1 = y.m.1 from he)]; rfl
theorem valC_nil {l : List ChV} {k : Blk} (h : PH) (s : (valC l).ok h) : (valC (l ++ [⟨k, ⟨none, [], 0⟩, true⟩])).ok h := valC_ok.2 fun r hr => by
  rcases List.mem_append.1 hr with hr | hr
  · exact valC_ok.1 s r hr
  · obtain rfl := List.mem_singleton.1 hr
    exact slb_nil h
end Go.Cx
namespace Go.Proofs.YtlckhaodecdbbaaGreatDoor
open Go.Cx
attribute [local irreducible] Go.Cx.CX Go.Cx.CC Go.Cx.CQ Go.Cx.PS Go.Cx.Ctr Go.Cx.CH
set_option maxRecDepth 10000
theorem bequal_c (A B : Blk) (a b : Option Addr) (ca cb' : Nat) : Ctr Tryz.prog 161 [.slice a A.length ca, .slice b B.length cb'] [] (fun x => rdx a A.length (cb A) x ∧ rdx b B.length (cb B) x) (fun v M => v = .bool (decide (A = B)) ∧ M = []) := by
  refine Ctr.intro Tryz.func161 rfl Tryz.ntmps161 rfl fun x w hp => ?_
  refine wk ?_
  refine CX.ps (PS.toStr rfl rfl rfl (rdx_ex (by first | exact pickA | exact updA) hp.1)) ?_
  refine wk ?_
  refine CX.ps (PS.toStr rfl rfl rfl (rdx_ex (by first | exact pickA | exact updA) hp.2)) ?_
  refine CX.ps (PS.eqlStr rfl rfl rfl) ?_
  refine wk ?_
  ((apply CQ.end1; (· rfl); (· exact .tmp rfl)); (· exact ⟨rfl, rfl⟩); (· exact selA))
theorem mergR_c (t u : Value) (ht : t.cells = #[t]) (hu : u.cells = #[u]) : Ctr Tryz.prog 160 [t, u, .func (.func 82) #[] #[], .func (.func 82) #[] #[]] [] (fun _ => True)
    (fun v M => ∃ b1 b2 b3 b4, v = .func (.func 180) #[] #[.pointer (some ⟨b1, 0, none⟩), .pointer (some ⟨b2, 0, none⟩), .pointer (some ⟨b3, 0, none⟩), .pointer (some ⟨b4, 0, none⟩)] ∧
      M = [bk b1 32 [t], bk b2 32 [u], bk b3 134 [.func (.func 82) #[] #[]], bk b4 134 [.func (.func 82) #[] #[]]]) := by
  refine Ctr.intro Tryz.func160 rfl Tryz.ntmps160 rfl fun x w hp => ?_
  refine wk ?_
  (apply CX.box; (· rfl); (· rfl); intro b1)
  (apply CX.box; (· rfl); (· rfl); intro b2)
  rw [ht, hu]
  (apply CX.box; (· rfl); (· rfl); intro b3)
  (apply CX.box; (· rfl); (· rfl); intro b4)
  refine wk ?_
  (apply CQ.end1; (· rfl); (· exact .tmp rfl))
  · exact ⟨b1, b2, b3, b4, rfl, rfl⟩
  · exact selA
def BetweenP (t l : List RwV) (v : Value) (M : List Assn) : Prop :=
  (¬ (MayR (t.map RwV.m) ∧ MayR (l.map RwV.m)) → v = .tuple #[.slice none 0 0, .int .i64 2] ∧ M = []) ∧
  (MayR (t.map RwV.m) ∧ MayR (l.map RwV.m) → ∃ a c r, r.map ChV.m = betweenM (t.map RwV.m) (l.map RwV.m) ∧ v = .tuple #[.slice a r.length c, .int .i64 0] ∧ M = [chsA a r] ∧ (a = none → r.length = 0 ∧ c = 0) ∧ r.length ≤ c ∧ r.length ≤ t.length + l.length)
theorem between_c (t l : List RwV) (ht : t.length ≤ 1073741824) (hl : l.length ≤ 1073741824) (a b : Option Addr) (ca cb' : Nat) (hca : t.length ≤ ca) (hcb : l.length ≤ cb') :
    Ctr Tryz.prog 131 [.slice a t.length ca, .slice b l.length cb'] [] (fun x => rwAt a t x ∧ rwAt b l x) (BetweenP t l) := by
  unfold BetweenP
  refine Ctr.introM Tryz.func131 rfl Tryz.ntmps131 rfl fun x w hp => ?_
  obtain ⟨hpa, hpb⟩ := hp
  refine wk ?_
  refine CX.callA (mayR_c t (by omega) a ca) ?_ (hpre := by exact rw_ex (by first | exact pickA | exact updA) hpa)
  by_cases hmt : MayR (t.map RwV.m)
  rotate_left
  · rw [decide_eq_false hmt]
    rintro _ _ ⟨rfl, rfl⟩
    refine wk ?_
    refine CQ.endM2 rfl (.tmp rfl) (.tmp rfl) ⟨fun _ => ⟨rfl, rfl⟩, fun h => absurd h.1 hmt⟩ (by exact selA)
  rw [decide_eq_true hmt]
  rintro _ _ ⟨rfl, rfl⟩
  refine wk ?_
  refine CX.callA (mayR_c l (by omega) b cb') ?_ (hpre := by exact rw_ex (by first | exact pickA | exact updA) hpb)
  by_cases hml : MayR (l.map RwV.m)
  rotate_left
  · rw [decide_eq_false hml]
    rintro _ _ ⟨rfl, rfl⟩
    refine wk ?_
    refine CQ.endM2 rfl (.tmp rfl) (.tmp rfl) ⟨fun _ => ⟨rfl, rfl⟩, fun h => absurd h.2 hml⟩ (by exact selA)
  rw [decide_eq_true hml]
  rintro _ _ ⟨rfl, rfl⟩
  refine wk ?_
  refine CX.allocZ [.slice none 0 0] ?_ (hv := rfl)
  intro b6
  refine wk ?_
  refine CX.callA (mergR_c (.slice a t.length ca) (.slice b l.length cb') rfl rfl) ?_
  rintro _ _ ⟨b1, b2, b3, b4, rfl, rfl⟩
  refine wk ?_
  refine CC.ownNil 68 3 ?_
  refine CC.give (valC []) (fun _ => valC_ok.2 fun _ h => by cases h) ?_
  have hLl := mrg_len rwKey rwKey 0 t 0 l
  have hfact := mrg_fact rwKey rwKey 0 t 0 l
  have hall := out_between 0 t 0 l
  have It := itR_c t l ht hl a b ca cb' hca hcb b1 b2 b3 b4
  generalize mrg rwKey rwKey 0 t 0 l = Lm at *
  refine CC.range It rfl (fun k M => ∃ a1 c1 r, M = [bk b6 34 [.slice a1 r.length c1], own 68 3 a1 r.length c1 (rows ChV.cells r), valC r] ∧ r.map ChV.m = ((Lm.take k).map outB).flatten ∧ r.length ≤ k)
    (M0 := [bk b6 34 [.slice none 0 0], own 68 3 none 0 0 [], valC []]) ⟨none, 0, [], rfl, rfl, Nat.le_refl _⟩ (by exact selA) (fun y hy => ⟨rw_ex (by first | exact pickA | exact updA) hpa y hy, rw_ex (by first | exact pickA | exact updA) hpb y hy⟩) (fun v hv => by
      obtain ⟨p, _, rfl⟩ := List.mem_map.1 hv; rfl) ?_ ?_
  · rintro ly ⟨st, pd, rfn, rtm, rps, ras, rbd, rdf⟩ k v M y e1 hk ⟨a1, c1, r, rfl, hr, hrk⟩ hst hpd hy
    dsimp only at hst hpd
    subst hst; subst hpd
    rw [List.getElem?_map, Option.map_eq_some_iff] at hk
    obtain ⟨p, hk, rfl⟩ := hk
    have hkl : k < Lm.length := (List.getElem?_eq_some_iff.1 hk).1
    have hpL : p ∈ Lm := List.mem_of_getElem? hk
    obtain ⟨hf1, hf2, hf3⟩ := hfact p hpL
    have hout : ((Lm.take (k + 1)).map outB).flatten = ((Lm.take k).map outB).flatten ++ outB p := by
      rw [List.take_succ_eq_append_getElem hkl, (List.getElem?_eq_some_iff.1 hk).2]; simp
    have hya : rwAt a t y := rw_ex (show Pick (exact x) _ _ from by first | exact pickA | exact updA) hpa y hy
    have hyb : rwAt b l y := rw_ex (show Pick (exact x) _ _ from by first | exact pickA | exact updA) hpb y hy
    clear hy
    obtain ⟨p1, p2⟩ := p
    cases p2 with
    | none =>
      cases p1 with
      | none => exact absurd ⟨rfl, rfl⟩ hf3
      | some q =>
        obtain ⟨n, z⟩ := q
        obtain ⟨m, rfl, hz⟩ := hf1 n z rfl
        obtain ⟨hm, rfl⟩ := List.getElem?_eq_some_iff.1 hz
        obtain ⟨ga, oa, rfl⟩ := rwAt_some hya (by omega)
        simp only [encM, Option.bind_some, Option.bind_none, atP_some, Nat.zero_add, putEs]
        refine wqk ?_
        refine CQ.begin rfl (by first | exact pickA | exact updA) ?_
        refine wqk ?_
        refine CR.draw [(0, 1), (1, 0), (2, 0), (3, 0), (4, 1), (5, 0), (6, 2), (7, 2), (8, 3)] mixed rfl (by kernel_rfl) (by kernel_rfl) [bk b6 34 [.slice a1 r.length c1], exact y] ?_
        refine hwk ?_
        (apply CH.read; (· rfl); (· apply PS.load (v := sv (t[m]).key); (· rfl); (· rfl); (· exact hya.cell (by first | exact pickA | exact updA) hm 0 rfl)); (· exact selA))
        refine CH.pure rfl (PS.build (vs := [(0, sv (t[m]).key), (2, .bool true)]) (out := [sv (t[m]).key, .slice none 0 0, .bool true]) rfl rfl rfl) ?_
        refine CH.chain rfl fun K hK => ?_
        refine CX.buildSl (parts := [(0, _)]) (vs := [(0, .agg #[sv (t[m]).key, .slice none 0 0, .bool true])]) (out := [sv (t[m]).key, .slice none 0 0, .bool true]) rfl rfl (by decide) (by simp [fillL, Value.cells, setL]) fun bq => ?_
        (refine CX.nil ?_; refine CQ.thenK ?_; apply hK; (· exact selA); clear hK K)
        refine CH.chain rfl fun K hK => ?_
        refine CX.append (m := 1) (news := [sv (t[m]).key, .slice none 0 0, .bool true]) rfl rfl rfl (by first | exact pickA | exact updA) (RdS.pick (b := bq) (o := 0) (by first | exact pickA | exact updA) rfl (one_all rfl) rfl) (by omega) (fun h => by cases h) ?_
        intro a3 c3
        refine CX.turn (valC (r ++ [⟨(t[m]).key, ⟨none, [], 0⟩, true⟩])) valC_nil ?_
        (refine CX.nil ?_; refine CQ.thenK ?_; apply hK; (· exact selA); clear hK K)
        refine CH.tail rfl rfl fun K hK => ?_
        refine CX.storeA ?_
        (refine CX.nil ?_; refine CQ.thenK ?_; apply hK; clear hK K)
        refine hwk ?_
        refine wqk ?_
        refine CQ.endRound (by first | exact pickA | exact updA) ⟨rfl, [bk b6 34 [.slice a3 (r.length + 1) c3], own 68 3 a3 (r.length + 1) c3 (rows ChV.cells r ++ [sv (t[m]).key, .slice none 0 0, .bool true]), valC (r ++ [⟨(t[m]).key, ⟨none, [], 0⟩, true⟩])], rfl, a3, c3, r ++ [⟨(t[m]).key, ⟨none, [], 0⟩, true⟩], by rw [List.length_append, rows_append]; rfl, by rw [hout, List.map_append, hr]; simp [outB, ChV.m], by simp only [List.length_append, List.length_singleton]; omega⟩ (by exact selA)
    | some q =>
      obtain ⟨n, z⟩ := q
      obtain ⟨m, rfl, hz⟩ := hf2 n z rfl
      obtain ⟨hm, rfl⟩ := List.getElem?_eq_some_iff.1 hz
      obtain ⟨gb, ob', rfl⟩ := rwAt_some hyb (by omega)
      have hval : (l[m]).s.b.length ≤ 1073741824 := by
        have := (hml.2 (l[m]).m (List.mem_map_of_mem (List.getElem_mem hm))).2.2
        have e : (l[m]).m.2.length = (l[m]).s.b.length := rfl
        omega
      have hzs := hyb.2 l[m] (List.getElem_mem hm)
      cases p1 with
      | none =>
        simp only [encM, Option.bind_some, Option.bind_none, atP_some, Nat.zero_add, putEs]
        refine wqk ?_
        refine CQ.begin rfl (by first | exact pickA | exact updA) ?_
        refine wqk ?_
        refine CR.draw [(0, 0), (1, 0), (2, 0), (3, 0), (4, 0), (5, 0), (6, 1), (7, 0), (8, 0), (9, 0), (10, 1), (11, 3), (12, 0), (13, 0), (14, 0)] mixed rfl (by kernel_rfl) (by kernel_rfl) [exact y] ?_
        refine hwk ?_
        refine wqk ?_
        refine CR.draw [(0, 1), (1, 0), (2, 0), (3, 0), (4, 1), (5, 0), (6, 0), (7, 0), (8, 1), (9, 2), (10, 0), (11, 2), (12, 2), (13, 3)] mixed rfl (by kernel_rfl) (by kernel_rfl) [bk b6 34 [.slice a1 r.length c1], exact y] ?_
        refine hwk ?_
        (apply CH.read; (· rfl); (· apply PS.load (v := sv (l[m]).key); (· rfl); (· rfl); (· exact hyb.cell (by first | exact pickA | exact updA) hm 0 rfl)); (· exact selA))
        refine hwk ?_
        (apply CH.read; (· rfl); (· apply PS.load (v := .slice (l[m]).s.a (l[m]).s.b.length (l[m]).s.c); (· rfl); (· rfl); (· exact hyb.cell (by first | exact pickA | exact updA) hm 1 rfl)); (· exact selA))
        refine CH.chain rfl fun K hK => ?_
        refine CX.callA (clone_c (l[m]).s hval) ?_ (hpre := by exact fun z hz => (hzs).mono (Pick.ok (show Pick (exact y) _ _ from by first | exact pickA | exact updA) hz))
        rintro _ _ ⟨a2, c2, rfl, rfl⟩
        (refine CX.nil ?_; refine CQ.thenK ?_; apply hK; (· exact selA); clear hK K)
        refine CH.pure rfl (PS.build (vs := [(0, sv (l[m]).key), (1, .slice a2 (l[m]).s.b.length c2)]) (out := [sv (l[m]).key, .slice a2 (l[m]).s.b.length c2, .bool false]) rfl rfl rfl) ?_
        refine CH.chain rfl fun K hK => ?_
        refine CX.buildSl (parts := [(0, _)]) (vs := [(0, .agg #[sv (l[m]).key, .slice a2 (l[m]).s.b.length c2, .bool false])]) (out := [sv (l[m]).key, .slice a2 (l[m]).s.b.length c2, .bool false]) rfl rfl (by decide) (by simp [fillL, Value.cells, setL]) fun bq => ?_
        (refine CX.nil ?_; refine CQ.thenK ?_; apply hK; (· exact selA); clear hK K)
        refine CH.chain rfl fun K hK => ?_
        refine CX.append (m := 1) (news := [sv (l[m]).key, .slice a2 (l[m]).s.b.length c2, .bool false]) rfl rfl rfl (by first | exact pickA | exact updA) (RdS.pick (b := bq) (o := 0) (by first | exact pickA | exact updA) rfl (one_all rfl) rfl) (by omega) (fun h => by cases h) ?_
        intro a3 c3
        refine CX.merge (valC (r ++ [⟨(l[m]).key, ⟨a2, (l[m]).s.b, c2⟩, false⟩])) valC_snoc ?_
        (refine CX.nil ?_; refine CQ.thenK ?_; apply hK; (· exact selA); clear hK K)
        refine CH.tail rfl rfl fun K hK => ?_
        refine CX.storeA ?_
        (refine CX.nil ?_; refine CQ.thenK ?_; apply hK; clear hK K)
        refine hwk ?_
        refine wqk ?_
        refine CQ.endRound (by first | exact pickA | exact updA) ⟨rfl, [bk b6 34 [.slice a3 (r.length + 1) c3], own 68 3 a3 (r.length + 1) c3 (rows ChV.cells r ++ [sv (l[m]).key, .slice a2 (l[m]).s.b.length c2, .bool false]), valC (r ++ [⟨(l[m]).key, ⟨a2, (l[m]).s.b, c2⟩, false⟩])], rfl, a3, c3, r ++ [⟨(l[m]).key, ⟨a2, (l[m]).s.b, c2⟩, false⟩], by rw [List.length_append, rows_append]; rfl, by rw [hout, List.map_append, hr]; simp [outB, ChV.m], by simp only [List.length_append, List.length_singleton]; omega⟩ (by exact selA)
      | some q' =>
        obtain ⟨n', z'⟩ := q'
        obtain ⟨m', rfl, hz'⟩ := hf1 n' z' rfl
        obtain ⟨hm', rfl⟩ := List.getElem?_eq_some_iff.1 hz'
        obtain ⟨ga, oa, rfl⟩ := rwAt_some hya (by omega)
        have hzs' := hya.2 t[m'] (List.getElem_mem hm')
        simp only [encM, Option.bind_some, atP_some, Nat.zero_add, putEs]
        by_cases hb : (t[m']).s.b = (l[m]).s.b
        · refine wqk ?_
          refine CQ.begin rfl (by first | exact pickA | exact updA) ?_
          refine wqk ?_
          refine CR.draw [(0, 0), (1, 0), (2, 0), (3, 0), (4, 0), (5, 0), (6, 1), (7, 0), (8, 0), (9, 0), (10, 1), (11, 3), (12, 0), (13, 0), (14, 0)] mixed rfl (by kernel_rfl) (by kernel_rfl) [exact y] ?_
          refine hwk ?_
          (apply CH.read; (· rfl); (· apply PS.load (v := .slice (t[m']).s.a (t[m']).s.b.length (t[m']).s.c); (· rfl); (· rfl); (· exact hya.cell (by first | exact pickA | exact updA) hm' 1 rfl)); (· exact selA))
          refine hwk ?_
          (apply CH.read; (· rfl); (· apply PS.load (v := .slice (l[m]).s.a (l[m]).s.b.length (l[m]).s.c); (· rfl); (· rfl); (· exact hyb.cell (by first | exact pickA | exact updA) hm 1 rfl)); (· exact selA))
          refine CH.tail rfl rfl fun K hK => ?_
          refine CX.callA (bequal_c (t[m']).s.b (l[m]).s.b (t[m']).s.a (l[m]).s.a (t[m']).s.c (l[m]).s.c) ?_ (hpre := by exact fun z hz => ⟨rdx_ex (show Pick (exact y) _ _ from by first | exact pickA | exact updA) hzs'.r z hz, rdx_ex (show Pick (exact y) _ _ from by first | exact pickA | exact updA) hzs.r z hz⟩)
          rw [decide_eq_true hb]
          rintro _ _ ⟨rfl, rfl⟩
          (refine CX.nil ?_; refine CQ.thenK ?_; apply hK; clear hK K)
          refine hwk ?_
          refine wqk ?_
          refine CQ.endRound (by first | exact pickA | exact updA) ⟨rfl, [bk b6 34 [.slice a1 r.length c1], own 68 3 a1 r.length c1 (rows ChV.cells r), valC r], rfl, a1, c1, r, rfl, by rw [hout, hr]; simp [outB, hb], by omega⟩ (by exact selA)
        · refine wqk ?_
          refine CQ.begin rfl (by first | exact pickA | exact updA) ?_
          refine wqk ?_
          refine CR.draw [(0, 0), (1, 0), (2, 0), (3, 0), (4, 0), (5, 0), (6, 1), (7, 0), (8, 0), (9, 0), (10, 1), (11, 3), (12, 0), (13, 0), (14, 0)] mixed rfl (by kernel_rfl) (by kernel_rfl) [exact y] ?_
          refine hwk ?_
          (apply CH.read; (· rfl); (· apply PS.load (v := .slice (t[m']).s.a (t[m']).s.b.length (t[m']).s.c); (· rfl); (· rfl); (· exact hya.cell (by first | exact pickA | exact updA) hm' 1 rfl)); (· exact selA))
          refine hwk ?_
          (apply CH.read; (· rfl); (· apply PS.load (v := .slice (l[m]).s.a (l[m]).s.b.length (l[m]).s.c); (· rfl); (· rfl); (· exact hyb.cell (by first | exact pickA | exact updA) hm 1 rfl)); (· exact selA))
          refine CH.tail rfl rfl fun K hK => ?_
          refine CX.callA (bequal_c (t[m']).s.b (l[m]).s.b (t[m']).s.a (l[m]).s.a (t[m']).s.c (l[m]).s.c) ?_ (hpre := by exact fun z hz => ⟨rdx_ex (show Pick (exact y) _ _ from by first | exact pickA | exact updA) hzs'.r z hz, rdx_ex (show Pick (exact y) _ _ from by first | exact pickA | exact updA) hzs.r z hz⟩)
          rw [decide_eq_false hb]
          rintro _ _ ⟨rfl, rfl⟩
          (refine CX.nil ?_; refine CQ.thenK ?_; apply hK; clear hK K)
          refine hwk ?_
          refine wqk ?_
          refine CR.draw [(0, 1), (1, 0), (2, 0), (3, 0), (4, 1), (5, 0), (6, 0), (7, 0), (8, 1), (9, 2), (10, 0), (11, 2), (12, 2), (13, 3)] mixed rfl (by kernel_rfl) (by kernel_rfl) [bk b6 34 [.slice a1 r.length c1], exact y] ?_
          refine hwk ?_
          (apply CH.read; (· rfl); (· apply PS.load (v := sv (l[m]).key); (· rfl); (· rfl); (· exact hyb.cell (by first | exact pickA | exact updA) hm 0 rfl)); (· exact selA))
          refine hwk ?_
          (apply CH.read; (· rfl); (· apply PS.load (v := .slice (l[m]).s.a (l[m]).s.b.length (l[m]).s.c); (· rfl); (· rfl); (· exact hyb.cell (by first | exact pickA | exact updA) hm 1 rfl)); (· exact selA))
          refine CH.chain rfl fun K hK => ?_
          refine CX.callA (clone_c (l[m]).s hval) ?_ (hpre := by exact fun z hz => (hzs).mono (Pick.ok (show Pick (exact y) _ _ from by first | exact pickA | exact updA) hz))
          rintro _ _ ⟨a2, c2, rfl, rfl⟩
          (refine CX.nil ?_; refine CQ.thenK ?_; apply hK; (· exact selA); clear hK K)
          refine CH.pure rfl (PS.build (vs := [(0, sv (l[m]).key), (1, .slice a2 (l[m]).s.b.length c2)]) (out := [sv (l[m]).key, .slice a2 (l[m]).s.b.length c2, .bool false]) rfl rfl rfl) ?_
          refine CH.chain rfl fun K hK => ?_
          refine CX.buildSl (parts := [(0, _)]) (vs := [(0, .agg #[sv (l[m]).key, .slice a2 (l[m]).s.b.length c2, .bool false])]) (out := [sv (l[m]).key, .slice a2 (l[m]).s.b.length c2, .bool false]) rfl rfl (by decide) (by simp [fillL, Value.cells, setL]) fun bq => ?_
          (refine CX.nil ?_; refine CQ.thenK ?_; apply hK; (· exact selA); clear hK K)
          refine CH.chain rfl fun K hK => ?_
          refine CX.append (m := 1) (news := [sv (l[m]).key, .slice a2 (l[m]).s.b.length c2, .bool false]) rfl rfl rfl (by first | exact pickA | exact updA) (RdS.pick (b := bq) (o := 0) (by first | exact pickA | exact updA) rfl (one_all rfl) rfl) (by omega) (fun h => by cases h) ?_
          intro a3 c3
          refine CX.merge (valC (r ++ [⟨(l[m]).key, ⟨a2, (l[m]).s.b, c2⟩, false⟩])) valC_snoc ?_
          (refine CX.nil ?_; refine CQ.thenK ?_; apply hK; (· exact selA); clear hK K)
          refine CH.tail rfl rfl fun K hK => ?_
          refine CX.storeA ?_
          (refine CX.nil ?_; refine CQ.thenK ?_; apply hK; clear hK K)
          refine hwk ?_
          refine wqk ?_
          refine CQ.endRound (by first | exact pickA | exact updA) ⟨rfl, [bk b6 34 [.slice a3 (r.length + 1) c3], own 68 3 a3 (r.length + 1) c3 (rows ChV.cells r ++ [sv (l[m]).key, .slice a2 (l[m]).s.b.length c2, .bool false]), valC (r ++ [⟨(l[m]).key, ⟨a2, (l[m]).s.b, c2⟩, false⟩])], rfl, a3, c3, r ++ [⟨(l[m]).key, ⟨a2, (l[m]).s.b, c2⟩, false⟩], by rw [List.length_append, rows_append]; rfl, by rw [hout, List.map_append, hr]; simp [outB, ChV.m, hb], by simp only [List.length_append, List.length_singleton]; omega⟩ (by exact selA)
  · rintro D M ⟨a1, c1, r, rfl, hr, hrk⟩
    rw [List.length_map] at hr hrk
    rw [List.take_length, hall] at hr
    refine wdk ?_
    refine CQ.fact (own_none (e := 68) (sz := 3) (by first | exact pickA | exact updA)) ?_
    rintro ⟨hn1, hn2, hn3⟩
    refine CQ.merge (chsA a1 r) own_chs ?_
    refine CQ.endD2 rfl (by first | exact pickA | exact updA) (.tmp rfl) (.tmp rfl) ⟨fun h => absurd ⟨hmt, hml⟩ h, fun _ => ⟨a1, c1, r, hr, rfl, rfl, hn1, hn2, by omega⟩⟩ (by exact selA)
theorem whole_c (l : List RwV) (hl : l.length ≤ 1073741824) (b : Option Addr) (cb' : Nat) (hcb : l.length ≤ cb') :
    Ctr Tryz.prog 89 [.slice b l.length cb'] [] (fun x => rwAt b l x) (BetweenP [] l) := by
  refine Ctr.intro Tryz.func89 rfl Tryz.ntmps89 rfl fun x w hp => ?_
  refine wk ?_
  refine CX.callA (between_c [] l (Nat.zero_le _) hl none b 0 cb' (Nat.le_refl _) hcb) ?_ (hpre := by exact fun y hy => ⟨⟨.inl rfl, fun _ h => by cases h⟩, rw_ex (show Pick (exact x) _ _ from by first | exact pickA | exact updA) hp y hy⟩)
  rintro v M ⟨h1, h2⟩
  by_cases hm : MayR (([] : List RwV).map RwV.m) ∧ MayR (l.map RwV.m)
  · obtain ⟨a, c, r, e1, rfl, rfl, e2, e3, e4⟩ := h2 hm
    refine wk ?_
    (apply CQ.end2; (· rfl); (· exact .tmp rfl); (· exact .tmp rfl))
    · exact ⟨fun h => absurd hm h, fun _ => ⟨a, c, r, e1, rfl, rfl, e2, e3, e4⟩⟩
    · exact selA
  · obtain ⟨rfl, rfl⟩ := h1 hm
    refine wk ?_
    (apply CQ.end2; (· rfl); (· exact .tmp rfl); (· exact .tmp rfl))
    · exact ⟨fun _ => ⟨rfl, rfl⟩, fun h => absurd h hm⟩
    · exact selA
end Go.Proofs.YtlckhaodecdbbaaGreatDoor
/-! A key's value (batch.Find), in the program. -/
namespace Go.Cx
theorem ris_at {l : List RwV} (h : Rising (l.map RwV.m)) {i j : Nat} (hij : i < j) (hj : j < l.length) : klt (l[i]'(by omega)).key (l[j]).key = true :=
  List.pairwise_iff_getElem.1 ((risR_iff l).1 h) i j (by omega) hj hij
theorem cmp_neg {a b : Blk} : cmpZ a b < 0 ↔ klt a b = true := by
  unfold cmpZ
  by_cases h : klt a b = true
  · simp [h]
  · simp only [if_neg h]; constructor
    · intro hh; split at hh <;> omega
    · intro hh; exact absurd hh h
theorem cmp_zero {a b : Blk} : cmpZ a b = 0 ↔ a = b := by
  unfold cmpZ
  by_cases h : klt a b = true
  · rw [if_pos h]; constructor
    · intro hh; omega
    · intro e; rw [e, klt_irr] at h; cases h
  · rw [if_neg h]
    by_cases e : a = b
    · simp [e]
    · simp [e]
theorem val_none {t : Tab} {k : Blk} (h : ∀ x ∈ t, x.1 ≠ k) : val t k = none := by
  cases hv : val t k with
  | none => rfl
  | some v => exact absurd rfl (h _ (mem_val hv))
end Go.Cx
namespace Go.Proofs.YtlckhaodecdbbaaGreatDoor
open Go.Cx
attribute [local irreducible] Go.Cx.CX Go.Cx.CC Go.Cx.CQ Go.Cx.PS Go.Cx.Ctr Go.Cx.CH
set_option maxRecDepth 10000
theorem bf1_c (r : RwV) (k : Blk) : Ctr Tryz.prog 109 [.agg r.cells.toArray, sv k] [] (fun _ => True) (fun v M => v = .int .i64 (cmpZ r.key k) ∧ M = []) := by
  refine Ctr.intro Tryz.func109 rfl Tryz.ntmps109 rfl fun x w hp => ?_
  refine wk ?_
  (refine CX.boxA (vs := r.cells) ?_; intro b)
  refine wk ?_
  refine CX.callA (cmp_c r.key k) ?_
  rintro _ _ ⟨rfl, rfl⟩
  refine wk ?_
  ((apply CQ.end1; (· rfl); (· exact .tmp rfl)); (· exact ⟨rfl, rfl⟩); (· exact selA))
theorem bs_c (l : List RwV) (hl : l.length ≤ 1073741824) (hR : Rising (l.map RwV.m)) (a : Option Addr) (cap : Nat) (k : Blk) : Ctr Tryz.prog 108 [.slice a l.length cap, sv k, .func (.func 109) #[] #[]] [] (fun x => rwAt a l x)
    (fun v M => ∃ (i : Nat) (d : Bool), v = .tuple #[.int .i64 (i : Int), .bool d] ∧ M = [] ∧ (d = true → ∃ h : i < l.length, (l[i]).key = k) ∧ (d = false → ∀ r ∈ l, r.key ≠ k)) := by
  refine Ctr.intro Tryz.func108 rfl Tryz.ntmps108 rfl fun x w hp => ?_
  refine wk ?_
  refine CC.loop (X := Nat × Nat) (fun s => [(9, .int .i64 (s.1 : Int)), (10, .int .i64 (s.2 : Int)), (8, .int .i64 (l.length : Int)), (0, .slice a l.length cap), (1, sv k), (2, .func (.func 109) #[] #[])])
    (fun s => [exact x]) (fun s => s.1 ≤ s.2 ∧ s.2 ≤ l.length ∧ (∀ q (hq : q < l.length), q < s.1 → klt (l[q]).key k = true) ∧ (∀ q (hq : q < l.length), s.2 ≤ q → ¬ klt (l[q]).key k = true)) (fun s => s.2 - s.1) (0, l.length) ⟨Nat.zero_le _, Nat.le_refl _, fun q hq h => by dsimp only at h; omega, fun q hq h => by dsimp only at h; omega⟩ ⟨rfl, rfl, rfl, rfl, rfl, rfl, trivial⟩ (by exact selA) ?_
  rintro ⟨i, j⟩ ⟨hij, hj, h1, h2⟩
  dsimp only at hij hj h1 h2 ⊢
  by_cases h3 : i < j
  · obtain ⟨g, off, rfl⟩ := rwAt_some hp (by omega)
    have hh : (i + j) / 2 ^ 1 < l.length := by omega
    refine wk ?_
    refine CX.ps (PS.shrN (i + j) 1 (by decide) rfl (eqI (by omega)) rfl) ?_
    generalize hhe : (i + j) / 2 ^ 1 = h at *
    refine wk ?_
    (refine CX.indexA (h) ?_ ?_; (· exact hh))
    (apply CX.ps; (· apply PS.loadG (vs := (l[h]).cells); (· rfl); (· rfl); (· exact hp.cells (by first | exact pickA | exact updA) hh); (· rfl)))
    refine wk ?_
    refine CX.callF (bf1_c l[h] k) ?_
    rintro _ _ ⟨rfl, rfl⟩
    by_cases h4 : cmpZ (l[h]).key k < 0
    · refine wk ?_
      have h5 := cmp_neg.1 h4
      exact CQ.round (x := (i, j)) (h + 1, j) ⟨by dsimp only; omega, hj, fun q hq hlt => by
        dsimp only at hlt
        by_cases e : q = h
        · subst e; exact h5
        · exact klt_tr (ris_at hR (show q < h by omega) hh) h5, h2⟩ (by dsimp only; omega) ⟨eqI (by simp), rfl, rfl, rfl, rfl, rfl, trivial⟩ (by exact selA)
    · refine wk ?_
      exact CQ.round (x := (i, j)) (i, h) ⟨by dsimp only; omega, by dsimp only; omega, h1, fun q hq hle => by
        dsimp only at hle
        intro hc
        by_cases e : q = h
        · subst e; exact h4 (cmp_neg.2 hc)
        · exact h4 (cmp_neg.2 (klt_tr (ris_at hR (show h < q by omega) hq) hc))⟩ (by dsimp only; omega) ⟨rfl, rfl, rfl, rfl, rfl, rfl, trivial⟩ (by exact selA)
  · obtain rfl : i = j := by omega
    by_cases h6 : i < l.length
    · obtain ⟨g, off, rfl⟩ := rwAt_some hp (by omega)
      by_cases h7 : cmpZ (l[i]).key k = 0
      · refine wk ?_
        (refine CX.indexA (i) ?_ ?_; (· exact h6))
        (apply CX.ps; (· apply PS.loadG (vs := (l[i]).cells); (· rfl); (· rfl); (· exact hp.cells (by first | exact pickA | exact updA) h6); (· rfl)))
        refine wk ?_
        refine CX.callF (bf1_c l[i] k) ?_
        rw [h7]
        rintro _ _ ⟨rfl, rfl⟩
        refine wk ?_
        (apply CQ.end2; (· rfl); (· exact .tmp rfl); (· exact .tmp rfl))
        · exact ⟨i, true, rfl, rfl, fun _ => ⟨h6, cmp_zero.1 h7⟩, fun h => by cases h⟩
        · exact selA
      · refine wk ?_
        (refine CX.indexA (i) ?_ ?_; (· exact h6))
        (apply CX.ps; (· apply PS.loadG (vs := (l[i]).cells); (· rfl); (· rfl); (· exact hp.cells (by first | exact pickA | exact updA) h6); (· rfl)))
        refine wk ?_
        refine CX.callF (bf1_c l[i] k) ?_
        rintro _ _ ⟨rfl, rfl⟩
        refine wk ?_
        (apply CQ.end2; (· rfl); (· exact .tmp rfl); (· exact .tmp rfl))
        · refine ⟨i, false, rfl, rfl, (fun h => by cases h), fun _ r hr e => ?_⟩
          obtain ⟨q, hq, rfl⟩ := List.getElem_of_mem hr
          subst e
          rcases Nat.lt_trichotomy q i with h | h | h
          · have := h1 q hq h; rw [klt_irr] at this; cases this
          · subst h; exact h7 (cmp_zero.2 rfl)
          · exact h2 i h6 (Nat.le_refl _) (ris_at hR h hq)
        · exact selA
    · refine wk ?_
      (apply CQ.end2; (· rfl); (· exact .tmp rfl); (· exact .tmp rfl))
      · refine ⟨i, false, rfl, rfl, (fun h => by cases h), fun _ r hr e => ?_⟩
        obtain ⟨q, hq, rfl⟩ := List.getElem_of_mem hr
        subst e
        have := h1 q hq (by omega); rw [klt_irr] at this; cases this
      · exact selA
theorem find_c (l : List RwV) (hl : l.length ≤ 1073741824) (hm : MayR (l.map RwV.m)) (a : Option Addr) (cap : Nat) (k : Blk) : Ctr Tryz.prog 65 [.slice a l.length cap, sv k] [] (fun x => rwAt a l x)
    (fun v M => ∃ a' B c' d, v = .tuple #[.slice a' (List.length B) c', .bool d] ∧ M = [own 5 1 a' (List.length B) c' (cb B)] ∧ (d = true → val (l.map RwV.m) k = some B) ∧ (d = false → val (l.map RwV.m) k = none)) := by
  refine Ctr.intro Tryz.func65 rfl Tryz.ntmps65 rfl fun x w hp => ?_
  refine wk ?_
  refine CX.callA (mayR_c l (by omega) a cap) ?_ (hpre := by exact rw_ex (by first | exact pickA | exact updA) hp)
  rw [decide_eq_true hm]
  rintro _ _ ⟨rfl, rfl⟩
  refine wk ?_
  refine CX.callA (bs_c l hl hm.1 a cap k) ?_ (hpre := by exact rw_ex (by first | exact pickA | exact updA) hp)
  rintro _ _ ⟨i, d, rfl, rfl, hd1, hd2⟩
  cases d with
  | false =>
    refine wk ?_
    refine CQ.ownNil 5 1 ?_
    (apply CQ.end2; (· rfl); (· exact .tmp rfl); (· exact .tmp rfl))
    · refine ⟨none, [], 0, false, rfl, rfl, (fun h => by cases h), fun _ => val_none fun x hx => ?_⟩
      obtain ⟨r, hr, rfl⟩ := List.mem_map.1 hx
      exact hd2 rfl r hr
    · exact selA
  | true =>
    obtain ⟨hi, hk⟩ := hd1 rfl
    obtain ⟨g, off, rfl⟩ := rwAt_some hp (by omega)
    have hv : (l[i]).s.b.length ≤ 1073741824 := by
      have := (hm.2 (l[i]).m (List.mem_map_of_mem (List.getElem_mem hi))).2.2
      have e : (l[i]).m.2.length = (l[i]).s.b.length := rfl
      omega
    refine wk ?_
    (refine CX.indexA (i) ?_ ?_; (· exact hi))
    refine wk ?_
    (apply CX.ps; (· apply PS.load (v := .slice (l[i]).s.a (l[i]).s.b.length (l[i]).s.c); (· rfl); (· rfl); (· exact hp.cell (by first | exact pickA | exact updA) hi 1 rfl)))
    refine CX.callA (clone_c (l[i]).s hv) ?_ (hpre := by exact fun y hy => (hp.2 l[i] (List.getElem_mem hi)).mono (Pick.ok (show Pick (exact x) _ _ from by first | exact pickA | exact updA) hy))
    rintro _ _ ⟨a', c', rfl, rfl⟩
    refine wk ?_
    (apply CQ.end2; (· rfl); (· exact .tmp rfl); (· exact .tmp rfl))
    · refine ⟨a', (l[i]).s.b, c', true, rfl, rfl, fun _ => ?_, fun h => by cases h⟩
      have := val_mem hm.1 (x := (l[i]).m) (List.mem_map_of_mem (List.getElem_mem hi))
      rw [← hk]; exact this
    · exact selA
end Go.Proofs.YtlckhaodecdbbaaGreatDoor
/-! The statement BatchWay, in the program. -/
namespace Go.Cx
theorem between_ok : ∀ (a b : Tab), (∀ r ∈ a, okR r) → (∀ r ∈ b, okR r) → ∀ c ∈ betweenM a b, c.ok := by
  have gone : ∀ {x : Blk × Blk}, okR x → (ChM.mk x.1 [] true).ok := fun h => ⟨h.1, h.2.1, Nat.zero_le _, fun _ => rfl⟩
  have laid : ∀ {x : Blk × Blk}, okR x → (ChM.mk x.1 x.2 false).ok := fun h => ⟨h.1, h.2.1, h.2.2, fun h => by cases h⟩
  intro a b
  induction a, b using betweenM.induct with
  | case1 => intro _ _ c hc; rw [betweenM] at hc; cases hc
  | case2 x a ih =>
    intro ha hb c hc
    rw [betweenM] at hc
    rcases List.mem_cons.1 hc with rfl | hc
    · exact gone (ha x (by simp))
    · exact ih (fun r hr => ha r (by simp [hr])) hb c hc
  | case3 y b ih =>
    intro ha hb c hc
    rw [betweenM] at hc
    rcases List.mem_cons.1 hc with rfl | hc
    · exact laid (hb y (by simp))
    · exact ih ha (fun r hr => hb r (by simp [hr])) c hc
  | case4 x a y b hk ih =>
    intro ha hb c hc
    rw [betweenM, if_pos hk] at hc
    rcases List.mem_cons.1 hc with rfl | hc
    · exact gone (ha x (by simp))
    · exact ih (fun r hr => ha r (by simp [hr])) hb c hc
  | case5 x a y b hk he hv ih =>
    intro ha hb c hc
    rw [betweenM, if_neg hk, if_pos he, if_pos hv] at hc
    exact ih (fun r hr => ha r (by simp [hr])) (fun r hr => hb r (by simp [hr])) c hc
  | case6 x a y b hk he hv ih =>
    intro ha hb c hc
    rw [betweenM, if_neg hk, if_pos he, if_neg hv] at hc
    rcases List.mem_cons.1 hc with rfl | hc
    · exact laid (hb y (by simp))
    · exact ih (fun r hr => ha r (by simp [hr])) (fun r hr => hb r (by simp [hr])) c hc
  | case7 x a y b hk he ih =>
    intro ha hb c hc
    rw [betweenM, if_neg hk, if_neg he] at hc
    rcases List.mem_cons.1 hc with rfl | hc
    · exact laid (hb y (by simp))
    · exact ih ha (fun r hr => hb r (by simp [hr])) c hc
theorem between_may {a b : Tab} (ha : MayR a) (hb : MayR b) : MayC (betweenM a b) := ⟨between_rising a b ha.1 hb.1, between_ok a b ha.2 hb.2⟩
theorem may_nil : MayR [] := ⟨.nil, fun _ h => by cases h⟩
def cntA (t : List RwV) (b : Tab) (i : Nat) : Nat := (((t.take i).map RwV.m).filter fun x => decide (val b x.1 ≠ some x.2)).length
def cntB (l : List RwV) (a : Tab) (i : Nat) : Nat := (((l.take i).map RwV.m).filter fun y => decide (val a y.1 = none)).length
theorem cntA_le (t : List RwV) (b : Tab) (i : Nat) : cntA t b i ≤ i := by
  unfold cntA
  refine Nat.le_trans (List.length_filter_le _ _) ?_
  simp; omega
theorem cntB_le (t : List RwV) (b : Tab) (i : Nat) : cntB t b i ≤ i := by
  unfold cntB
  refine Nat.le_trans (List.length_filter_le _ _) ?_
  simp; omega
theorem cntA_yes {t : List RwV} {b : Tab} {i : Nat} (h : i < t.length) (hv : val b (t[i]).key ≠ some (t[i]).s.b) : cntA t b (i + 1) = cntA t b i + 1 := by
  unfold cntA
  rw [List.take_succ_eq_append_getElem h, List.map_append, List.filter_append, List.length_append]
  have : decide (val b (t[i]).m.1 ≠ some (t[i]).m.2) = true := decide_eq_true hv
  simp only [List.map_cons, List.map_nil, List.filter_cons, this, if_true, List.filter_nil, List.length_cons, List.length_nil]
theorem cntA_no {t : List RwV} {b : Tab} {i : Nat} (h : i < t.length) (hv : val b (t[i]).key = some (t[i]).s.b) : cntA t b (i + 1) = cntA t b i := by
  unfold cntA
  rw [List.take_succ_eq_append_getElem h, List.map_append, List.filter_append, List.length_append]
  have : decide (val b (t[i]).m.1 ≠ some (t[i]).m.2) = false := decide_eq_false (fun hn => hn hv)
  simp only [List.map_cons, List.map_nil, List.filter_cons, this, List.filter_nil, List.length_nil, Bool.false_eq_true, if_false, Nat.add_zero]
theorem cntB_yes {t : List RwV} {b : Tab} {i : Nat} (h : i < t.length) (hv : val b (t[i]).key = none) : cntB t b (i + 1) = cntB t b i + 1 := by
  unfold cntB
  rw [List.take_succ_eq_append_getElem h, List.map_append, List.filter_append, List.length_append]
  have : decide (val b (t[i]).m.1 = none) = true := decide_eq_true hv
  simp only [List.map_cons, List.map_nil, List.filter_cons, this, if_true, List.filter_nil, List.length_cons, List.length_nil]
theorem cntB_no {t : List RwV} {b : Tab} {i : Nat} (h : i < t.length) (hv : val b (t[i]).key ≠ none) : cntB t b (i + 1) = cntB t b i := by
  unfold cntB
  rw [List.take_succ_eq_append_getElem h, List.map_append, List.filter_append, List.length_append]
  have : decide (val b (t[i]).m.1 = none) = false := decide_eq_false hv
  simp only [List.map_cons, List.map_nil, List.filter_cons, this, List.filter_nil, List.length_nil, Bool.false_eq_true, if_false, Nat.add_zero]
theorem cnt_all (t l : List RwV) (ht : Rising (t.map RwV.m)) (hl : Rising (l.map RwV.m)) : (betweenM (t.map RwV.m) (l.map RwV.m)).length = cntA t (l.map RwV.m) t.length + cntB l (t.map RwV.m) l.length := by
  unfold cntA cntB
  rw [List.take_length, List.take_length]; exact length_between _ _ ht hl
end Go.Cx
namespace Go.Proofs.YtlckhaodecdbbaaGreatDoor
open Go.Cx
attribute [local irreducible] Go.Cx.CX Go.Cx.CC Go.Cx.CQ Go.Cx.PS Go.Cx.Ctr Go.Cx.CH
set_option maxRecDepth 10000
end Go.Proofs.YtlckhaodecdbbaaGreatDoor
/-! Heads: plain laws. No program in sight. -/
namespace Go.Cx
/-! ### Heads -/
structure HdM where
  bank : Nat
  blocks : Nat
  batches : Nat
deriving DecidableEq
def HdM.z : HdM := ⟨0, 0, 0⟩
structure HdM.ok (h : HdM) : Prop where
  bank : h.bank < 256
  blocks : h.blocks < 4294967296
  batches : h.batches < 4294967296
def HdM.may (h : HdM) : Prop := h.bank < 2 ∧ h.blocks ≤ 4096 ∧ h.batches ≤ h.blocks
instance (h : HdM) : Decidable h.may := by unfold HdM.may; infer_instance
def HdM.bytes (h : HdM) : Blk := le 1 h.bank ++ (le 4 h.blocks ++ le 4 h.batches)
def ofBody (b : Blk) : HdM := ⟨ofLe (b.take 1), ofLe ((b.drop 1).take 4), ofLe ((b.drop 5).take 4)⟩
def most : Nat := 4611686018427387904
def putH (n : Nat) (h : HdM) : Blk × Int := if n = 0 ∨ most < n ∨ ¬ h.may then (zblk, 2) else (sealB n h.bytes, 0)
def getH (b : Blk) : Nat × HdM × Int :=
  if (getM b).2.2 ≠ 0 then (0, HdM.z, (getM b).2.2)
  else if most < (getM b).1 ∨ ¬ (ofBody (getM b).2.1).may ∨ ∃ c ∈ (getM b).2.1.drop 9, c ≠ 0 then (0, HdM.z, 5)
  else ((getM b).1, ofBody (getM b).2.1, 0)
def newH (a b : Blk) : Nat × HdM × Int :=
  if (getH a).2.2 ≠ 0 ∧ (getH b).2.2 ≠ 0 then (0, HdM.z, 7)
  else if (getH a).2.2 ≠ 0 ∨ ((getH b).2.2 = 0 ∧ (getH a).1 < (getH b).1) then ((getH b).1, (getH b).2.1, 0)
  else ((getH a).1, (getH a).2.1, 0)
theorem bytes_len (h : HdM) : h.bytes.length = 9 := by simp [HdM.bytes]
theorem may_ok {h : HdM} (m : h.may) : h.ok := by unfold HdM.may at m; exact ⟨by omega, by omega, by omega⟩
theorem ofBody_bytes {h : HdM} (o : h.ok) (r : Blk) : ofBody (h.bytes ++ r) = h := by
  obtain ⟨a, b, c⟩ := h
  have o1 := o.bank
  have o2 := o.blocks
  have o3 := o.batches
  simp only at o1 o2 o3
  have e1 : (HdM.bytes ⟨a, b, c⟩ ++ r).take 1 = le 1 a := by simp [HdM.bytes]
  have e2 : ((HdM.bytes ⟨a, b, c⟩ ++ r).drop 1).take 4 = le 4 b := by simp [HdM.bytes, List.drop_append, List.take_append]
  have e3 : ((HdM.bytes ⟨a, b, c⟩ ++ r).drop 5).take 4 = le 4 c := by simp [HdM.bytes, List.drop_append, List.take_append]
  rw [ofBody, e1, e2, e3, ofLe_le 1 a (by omega), ofLe_le 4 b (by omega), ofLe_le 4 c (by omega)]
theorem bytes_ofBody {b : Blk} (h : 9 ≤ b.length) : (ofBody b).bytes = b.take 9 := by
  unfold ofBody HdM.bytes
  have f : ∀ (c : Blk) (k : Nat), c.length = k → le k (ofLe c) = c := fun c k e => by subst e; exact le_ofLe c
  simp only [f (b.take 1) 1 (by simp; omega), f ((b.drop 1).take 4) 4 (by simp; omega), f ((b.drop 5).take 4) 4 (by simp; omega)]
  rw [show 9 = 1 + 8 from rfl, List.take_add, show 8 = 4 + 4 from rfl, List.take_add, List.drop_drop]
theorem ofBody_ok (b : Blk) : (ofBody b).ok := by
  unfold ofBody
  have f : ∀ (c : Blk) (k : Nat), ofLe (c.take k) < 256 ^ k := fun c k =>
    Nat.lt_of_lt_of_le (ofLe_lt (c.take k)) (Nat.pow_le_pow_right (by omega) (by simp; omega))
  exact ⟨f b 1, f _ 4, f _ 4⟩
theorem zeros_of {l : Blk} (h : ¬ ∃ c ∈ l, c ≠ 0) : l = List.replicate l.length 0 := by
  apply List.eq_replicate_of_mem
  intro c hc
  exact Decidable.byContradiction fun e => h ⟨c, hc, e⟩
theorem pad_bytes (h : HdM) : padB 108 h.bytes = h.bytes ++ List.replicate 99 0 := by simp [padB, bytes_len]
theorem get_put {n : Nat} {h : HdM} (h0 : (putH n h).2 = 0) : 1 ≤ n ∧ n ≤ most ∧ h.may ∧ (putH n h).1 = sealB n h.bytes ∧ getH (putH n h).1 = (n, h, 0) := by
  unfold putH at h0 ⊢
  split at h0
  · simp at h0
  rename_i hc
  rw [if_neg hc]
  have hm : h.may := Decidable.byContradiction fun e => hc (.inr (.inr e))
  have h1 : 1 ≤ n := by omega
  have h2 : n ≤ most := by omega
  refine ⟨h1, h2, hm, rfl, ?_⟩
  have g := get_sealB (n := n) (b := h.bytes) h1 (by simp only [most, top] at *; omega) (by rw [bytes_len]; omega)
  have e := ofBody_bytes (may_ok hm) (List.replicate 99 0)
  unfold getH
  simp only [g, pad_bytes, e]
  rw [if_neg (by simp), if_neg]
  rintro (a | a | ⟨c, hc, a⟩)
  · omega
  · exact a hm
  · rw [List.drop_append, bytes_len] at hc
    have : List.drop 9 h.bytes = [] := List.drop_of_length_le (by rw [bytes_len]; omega)
    simp [this] at hc
    exact a hc
theorem put_err (n : Nat) (h : HdM) : (putH n h).2 = 0 ∨ (putH n h = (zblk, 2) ∧ ¬ (1 ≤ n ∧ n ≤ most ∧ h.may)) := by
  unfold putH
  split
  · rename_i hc; exact .inr ⟨rfl, fun ⟨a, b, c⟩ => by rcases hc with h | h | h <;> first | omega | exact h c⟩
  · exact .inl rfl
theorem put_iff (n : Nat) (h : HdM) : (putH n h).2 = 0 ↔ 1 ≤ n ∧ n ≤ most ∧ h.may := by
  constructor
  · intro h0; have := get_put h0; exact ⟨this.1, this.2.1, this.2.2.1⟩
  · rintro ⟨a, b, c⟩; unfold putH; rw [if_neg]; rintro (h | h | h) <;> first | omega | exact h c
/-- What is got is put as the same block. -/
theorem put_get {b : Blk} (w : WB b) (h0 : (getH b).2.2 = 0) : 1 ≤ (getH b).1 ∧ (getH b).1 ≤ most ∧ (getH b).2.1.may ∧ sealB (getH b).1 (getH b).2.1.bytes = b := by
  unfold getH at h0 ⊢
  by_cases hg : (getM b).2.2 = 0
  · simp only [hg, ne_eq, not_true_eq_false, if_false] at h0 ⊢
    split at h0
    · simp at h0
    rename_i hc
    rw [if_neg hc]
    have v := get_valid hg
    have g := get_ok v
    have hm : (ofBody (getM b).2.1).may := Decidable.byContradiction fun e => hc (.inr (.inl e))
    have hz : ¬ ∃ c ∈ (getM b).2.1.drop 9, c ≠ 0 := fun e => hc (.inr (.inr e))
    have hn : (getM b).1 ≤ most := by omega
    rw [g] at hm hz hn ⊢
    dsimp only at hm hz hn ⊢
    have w' : b.length = 128 := w
    refine ⟨v.num, hn, hm, ?_⟩
    have e := valid_eq w v
    conv => rhs; rw [e]
    have hl : ((b.drop 8).take 108).length = 108 := by simp; omega
    have z := zeros_of hz
    have p : padB 108 (ofBody ((b.drop 8).take 108)).bytes = padB 108 ((b.drop 8).take 108) := by
      rw [pad_bytes, bytes_ofBody (by omega)]
      have : ((b.drop 8).take 108).drop 9 = List.replicate 99 0 := by rw [z]; congr 1; simp; omega
      rw [← this, List.take_append_drop, padB, hl]; simp
    unfold sealB frontB
    rw [p]
  · rw [if_pos hg] at h0; exact absurd h0 hg
theorem get_err (b : Blk) : (getH b).2.2 = 0 ∨ (getH b).1 = 0 ∧ (getH b).2.1 = HdM.z := by
  unfold getH
  split
  · exact .inr ⟨rfl, rfl⟩
  · split
    · exact .inr ⟨rfl, rfl⟩
    · exact .inl rfl
/-- The document's way: what is put again is the same. -/
theorem getH_eq {b : Blk} (w : WB b) : getH b = if (getM b).2.2 ≠ 0 then (0, HdM.z, (getM b).2.2)
    else if (putH (getM b).1 (ofBody (getM b).2.1)).2 ≠ 0 ∨ (putH (getM b).1 (ofBody (getM b).2.1)).1 ≠ b then (0, HdM.z, 5) else ((getM b).1, ofBody (getM b).2.1, 0) := by
  by_cases hg : (getM b).2.2 = 0
  · by_cases h0 : (getH b).2.2 = 0
    · have hp := put_get w h0
      have e : getH b = ((getM b).1, ofBody (getM b).2.1, 0) := by
        unfold getH at h0 ⊢
        rw [if_neg (by simp [hg])] at h0 ⊢
        split at h0
        · simp at h0
        · rename_i hc; rw [if_neg hc]
      rw [e] at hp
      dsimp only at hp
      have h1 := (put_iff (getM b).1 (ofBody (getM b).2.1)).2 ⟨hp.1, hp.2.1, hp.2.2.1⟩
      have h2 := (get_put h1).2.2.2.1
      rw [e, if_neg (by simp [hg]), if_neg]
      rintro (a | a)
      · exact a h1
      · exact a (by rw [h2]; exact hp.2.2.2)
    · have e : getH b = (0, HdM.z, 5) := by
        unfold getH at h0 ⊢
        rw [if_neg (by simp [hg])] at h0 ⊢
        split
        · rfl
        · rename_i hc; rw [if_neg hc] at h0; simp at h0
      rw [e, if_neg (by simp [hg]), if_pos]
      by_cases h1 : (putH (getM b).1 (ofBody (getM b).2.1)).2 = 0
      · right
        intro h2
        have := (get_put h1).2.2.2.2
        rw [h2] at this
        rw [this] at h0
        simp at h0
      · exact .inl h1
  · have hg' : (getM b).2.2 ≠ 0 := hg
    rw [if_pos hg']; unfold getH; rw [if_pos hg']
/-- Its way to the newest. -/
theorem newH_eq (a b : Blk) : newH a b = if (getH a).2.2 ≠ 0 ∧ (getH b).2.2 ≠ 0 then (0, HdM.z, 7) else if (getH a).1 < (getH b).1 then ((getH b).1, (getH b).2.1, 0) else ((getH a).1, (getH a).2.1, 0) := by
  unfold newH
  split
  · rfl
  rename_i hc
  have h1 : (getH b).2.2 = 0 → 1 ≤ (getH b).1 ∨ True := fun _ => .inr trivial
  have pos : ∀ c, (getH c).2.2 = 0 → 1 ≤ (getH c).1 := fun c h => by
    unfold getH at h ⊢
    by_cases hg : (getM c).2.2 = 0
    · rw [if_neg (by simp [hg])] at h ⊢
      split at h
      · simp at h
      · rename_i hc; rw [if_neg hc]; dsimp only; rw [get_ok (get_valid hg)]; exact (get_valid hg).num
    · have hg' : (getM c).2.2 ≠ 0 := hg
      rw [if_pos hg'] at h; exact absurd h hg
  rcases get_err a with ha | ⟨ha1, ha2⟩
  · rcases get_err b with hb | ⟨hb1, hb2⟩
    · simp [ha, hb]
    · by_cases hb : (getH b).2.2 = 0
      · simp [ha, hb]
      · have := pos a ha
        simp [ha, hb, hb1]
  · by_cases ha : (getH a).2.2 = 0
    · have := pos a ha; omega
    · have hb : (getH b).2.2 = 0 := Decidable.byContradiction fun e => hc ⟨ha, e⟩
      have := pos b hb
      rw [if_pos (.inl ha), if_pos (by omega)]
end Go.Cx
/-! Sealed blocks (seal), in the program. -/
namespace Go.Cx
def ins (B : Blk) (f : Nat) (c : Blk) : Blk := B.take f ++ (c ++ B.drop (f + c.length))
theorem ins_len {B c : Blk} {f : Nat} (h : f + c.length ≤ B.length) : (ins B f c).length = B.length := by simp [ins]; omega
theorem ins_mid (A c r : Blk) (k f : Nat) (hf : A.length = f) (hc : c.length ≤ k) : ins (A ++ (List.replicate k 0 ++ r)) f c = A ++ (c ++ (List.replicate (k - c.length) 0 ++ r)) := by
  subst hf
  have h1 : (A ++ (List.replicate k 0 ++ r)).take A.length = A := by simp
  have h2 : (A ++ (List.replicate k 0 ++ r)).drop (A.length + c.length) = List.replicate (k - c.length) 0 ++ r := by
    rw [← List.drop_drop, List.drop_left, List.drop_append_of_le_length (by simp; omega)]; simp
  rw [ins, h1, h2]
def seal1 (n : Nat) : Blk := ins zblk 0 (le 8 n)
def seal2 (n : Nat) (b : Blk) : Blk := ins (seal1 n) 8 b
def seal3 (n : Nat) (b : Blk) : Blk := ins (seal2 n b) 116 (le 4 (crcM ((seal2 n b).take 116)))
theorem seal1_eq (n : Nat) : seal1 n = le 8 n ++ (List.replicate 108 0 ++ List.replicate 12 0) := by
  have := ins_mid [] (le 8 n) [] 128 0 rfl (by simp)
  simp only [List.nil_append, List.append_nil, length_le] at this
  rw [seal1, zblk, this]; congr 1
theorem seal2_eq {n : Nat} {b : Blk} (h : b.length ≤ 108) : seal2 n b = frontB n b ++ (List.replicate 4 0 ++ List.replicate 8 0) := by
  rw [seal2, seal1_eq, ins_mid _ _ _ _ _ (by simp) h, frontB, padB]
  simp
theorem seal3_eq {n : Nat} {b : Blk} (h : b.length ≤ 108) : (seal2 n b).take 116 = frontB n b ∧ seal3 n b = frontB n b ++ (le 4 (crcM (frontB n b)) ++ (List.replicate 8 0 ++ [])) := by
  have e : (seal2 n b).take 116 = frontB n b := by
    rw [seal2_eq h, List.take_append_of_le_length (by rw [front_len h]; omega), List.take_of_length_le (by rw [front_len h]; omega)]
  refine ⟨e, ?_⟩
  have := ins_mid (frontB n b) (le 4 (crcM (frontB n b))) (List.replicate 8 0) 4 116 (front_len h) (by simp)
  rw [seal3, e, seal2_eq h, this]; simp
theorem seal4_eq {n : Nat} {b : Blk} (h : b.length ≤ 108) : ins (seal3 n b) 120 (le 8 (top - n)) = sealB n b := by
  have := ins_mid (frontB n b ++ le 4 (crcM (frontB n b))) (le 8 (top - n)) [] 8 120 (by simp [front_len h]) (by simp)
  rw [(seal3_eq h).2, ← List.append_assoc, this, sealB]; simp
theorem seal_WB {n : Nat} {b : Blk} (h : b.length ≤ 108) : WB (seal1 n) ∧ WB (seal2 n b) ∧ WB (seal3 n b) := by
  refine ⟨?_, ?_, ?_⟩
  · rw [seal1_eq]; simp [WB]
  · rw [seal2_eq h]; simp [WB, front_len h]
  · rw [(seal3_eq h).2]; simp [WB, front_len h]
def newestM (a b : Blk) : Int × Int := if (getM a).1 = 0 ∧ (getM b).1 = 0 then (0, 7) else if (getM a).1 < (getM b).1 then (1, 0) else (0, 0)
def nextM (a b : Blk) : Int := if (getM a).1 = 0 ∧ (getM b).1 = 0 then 0 else if (getM a).1 < (getM b).1 then 0 else 1
theorem getM_lt (b : Blk) : (getM b).1 < 18446744073709551616 := by
  unfold getM
  split
  · omega
  split
  · omega
  · have := ofLe_lt (b.take 8)
    have h2 : 256 ^ (b.take 8).length ≤ 256 ^ 8 := Nat.pow_le_pow_right (by omega) (by simp; omega)
    exact Nat.lt_of_lt_of_le this h2
theorem or_zero {n m : Nat} (h : n = 0 ∧ m = 0) : n ||| m = 0 := by rw [h.1, h.2]; rfl
theorem or_nz {n m : Nat} (h : ¬ (n = 0 ∧ m = 0)) : 0 < n ||| m := by
  have h1 := Nat.left_le_or (n := n) (m := m)
  have h2 := Nat.right_le_or (n := n) (m := m)
  omega
theorem getN_0 {B : Blk} {k : Nat} (hk : k = 1 ∨ k = 2 ∨ k = 4 ∨ k = 8) (h : B.length = k) : getN B 0 (k : Int) = (ofLe B, 0) := by
  unfold getN
  rw [if_neg (by unfold okSize; omega), if_neg (by omega)]
  simp [List.take_of_length_le (show B.length ≤ k by omega)]
end Go.Cx
namespace Go.Proofs.YtlckhaodecdbbaaGreatDoor
open Go.Cx
attribute [local irreducible] Go.Cx.CX Go.Cx.CC Go.Cx.CQ Go.Cx.PS Go.Cx.Ctr Go.Cx.CH
set_option maxRecDepth 10000
theorem sbegin_c : Ctr Tryz.prog 181 [] [] (fun _ => True) (fun v M => v = .agg #[.int .i64 0, .int .i64 8] ∧ M = []) := by
  refine Ctr.intro Tryz.func181 rfl Tryz.ntmps181 rfl fun x w hp => ?_
  refine wk ?_
  (refine CX.allocA ?_; intro r)
  refine wk ?_
  (apply CX.ps; (· apply PS.build (out := [.int .i64 0, .int .i64 8]); (· rfl); (· rfl); (· rfl)))
  (refine CX.storeB (vs := [.int .i64 0, .int .i64 8]) ?_ ?_ ?_ ?_; (· rfl); (· rfl); (· exact one_all rfl))
  refine wk ?_
  ((apply CQ.end1; (· rfl); (· exact .cells inferInstance rfl (CellsAt.all (by first | exact pickA | exact updA)) (rfl))); (· exact ⟨rfl, rfl⟩); (· exact selA))
theorem sinner_c : Ctr Tryz.prog 186 [] [] (fun _ => True) (fun v M => v = .agg #[.int .i64 8, .int .i64 116] ∧ M = []) := by
  refine Ctr.intro Tryz.func186 rfl Tryz.ntmps186 rfl fun x w hp => ?_
  refine wk ?_
  (refine CX.allocA ?_; intro r)
  refine wk ?_
  (apply CX.ps; (· apply PS.build (out := [.int .i64 8, .int .i64 116]); (· rfl); (· rfl); (· rfl)))
  (refine CX.storeB (vs := [.int .i64 8, .int .i64 116]) ?_ ?_ ?_ ?_; (· rfl); (· rfl); (· exact one_all rfl))
  refine wk ?_
  ((apply CQ.end1; (· rfl); (· exact .cells inferInstance rfl (CellsAt.all (by first | exact pickA | exact updA)) (rfl))); (· exact ⟨rfl, rfl⟩); (· exact selA))
theorem scheck_c : Ctr Tryz.prog 184 [] [] (fun _ => True) (fun v M => v = .agg #[.int .i64 116, .int .i64 120] ∧ M = []) := by
  refine Ctr.intro Tryz.func184 rfl Tryz.ntmps184 rfl fun x w hp => ?_
  refine wk ?_
  (refine CX.allocA ?_; intro r)
  refine wk ?_
  (apply CX.ps; (· apply PS.build (out := [.int .i64 116, .int .i64 120]); (· rfl); (· rfl); (· rfl)))
  (refine CX.storeB (vs := [.int .i64 116, .int .i64 120]) ?_ ?_ ?_ ?_; (· rfl); (· rfl); (· exact one_all rfl))
  refine wk ?_
  ((apply CQ.end1; (· rfl); (· exact .cells inferInstance rfl (CellsAt.all (by first | exact pickA | exact updA)) (rfl))); (· exact ⟨rfl, rfl⟩); (· exact selA))
theorem send_c : Ctr Tryz.prog 183 [] [] (fun _ => True) (fun v M => v = .agg #[.int .i64 120, .int .i64 128] ∧ M = []) := by
  refine Ctr.intro Tryz.func183 rfl Tryz.ntmps183 rfl fun x w hp => ?_
  refine wk ?_
  (refine CX.allocA ?_; intro r)
  refine wk ?_
  (apply CX.ps; (· apply PS.build (out := [.int .i64 120, .int .i64 128]); (· rfl); (· rfl); (· rfl)))
  (refine CX.storeB (vs := [.int .i64 120, .int .i64 128]) ?_ ?_ ?_ ?_; (· rfl); (· rfl); (· exact one_all rfl))
  refine wk ?_
  ((apply CQ.end1; (· rfl); (· exact .cells inferInstance rfl (CellsAt.all (by first | exact pickA | exact updA)) (rfl))); (· exact ⟨rfl, rfl⟩); (· exact selA))
theorem spof_c (b f k : Nat) (h0 : 0 < k) (h : f + k ≤ 128) : Ctr Tryz.prog 187 [.agg #[.int .i64 (f : Int), .int .i64 ((f + k : Nat) : Int)], .pointer (some ⟨b, 0, none⟩)] [] (fun _ => True)
    (fun v M => v = .slice (some ⟨b, f, none⟩) k k ∧ M = []) := by
  have e : cutAt (some ⟨b, 0, none⟩) f (f + k) 1 = some ⟨b, f, none⟩ := by unfold cutAt; rw [if_neg (by omega)]; simp [addr_add]
  have e2 : f + k - f = k := by omega
  refine Ctr.intro Tryz.func187 rfl Tryz.ntmps187 rfl fun x w hp => ?_
  refine wk ?_
  refine CX.boxA (vs := [.int .i64 (f : Int), .int .i64 ((f + k : Nat) : Int)]) ?_
  intro t
  refine wk ?_
  refine CC.draw [(0, 0), (1, 0), (2, 0), (3, 1), (4, 0), (5, 1), (6, 0), (7, 1), (8, 0), (9, 0)] mixed rfl (by kernel_rfl) (by kernel_rfl) [bk t 242 [.int .i64 (f : Int), .int .i64 ((f + k : Nat) : Int)]] ?_
  refine hwk ?_
  (apply CH.pure; (· rfl); (· apply PS.sliceArr3 (l := f) (h := f + k) (m := f + k); (· rfl); (· rfl); (· rfl); (· rfl); (· rfl); (· exact .inr ⟨_, rfl⟩); (· exact ⟨_, rfl⟩); (· omega); (· omega); (· omega)))
  rw [e, e2]
  refine hwk ?_
  refine wk ?_
  ((apply CQ.end1; (· rfl); (· exact .tmp rfl)); (· exact ⟨rfl, rfl⟩); (· exact selA))
theorem spput_c (b t f k n : Nat) (B : Blk) (hB : WB B) (hk : k = 4 ∨ k = 8) (h : f + k ≤ 128) (hn : n < 256 ^ k) : Ctr Tryz.prog 191 [.agg #[.int .i64 (f : Int), .int .i64 ((f + k : Nat) : Int)], .pointer (some ⟨b, 0, none⟩), .int .u64 (n : Int)] [bk b t (cb B)] (fun _ => True)
    (fun v M => v = .tuple #[] ∧ M = [bk b t (cb (ins B f (le k n)))]) := by
  have hB' : B.length = 128 := hB
  refine Ctr.intro Tryz.func191 rfl Tryz.ntmps191 rfl fun x w hp => ?_
  refine wk ?_
  refine CX.boxA (vs := [.int .i64 (f : Int), .int .i64 ((f + k : Nat) : Int)]) ?_
  intro q
  refine wk ?_
  have e : ((f + k : Nat) : Int) - (f : Int) = (k : Int) := by omega
  rw [e]
  refine CX.callA (nput_c n k (by omega) hn) ?_
  rintro _ _ ⟨c, rfl, rfl⟩
  refine wk ?_
  (apply CX.ps; (· apply PS.loadG (vs := [.int .i64 (f : Int), .int .i64 ((f + k : Nat) : Int)]); (· rfl); (· rfl); (· exact CellsAt.all (by first | exact pickA | exact updA)); (· rfl)))
  refine wk ?_
  refine CX.callA (spof_c b f k (by omega) h) ?_
  rintro _ _ ⟨rfl, rfl⟩
  refine wk ?_
  apply CX.copyBk (m := k) (news := cb (le k n))
  · rfl
  · rfl
  · rfl
  · exact RdS.own (by first | exact pickA | exact updA) (one_cb _) (by omega)
  · first | exact pickA | exact updA
  · simp
  · simp; omega
  rw [List.take_of_length_le (by simp), cb_setL]
  refine wk ?_
  (apply CQ.end0; (· rfl))
  · exact ⟨rfl, rfl⟩
  · exact selA
theorem spget_c (b f k : Nat) (B : Blk) (hB : WB B) (hk : k = 4 ∨ k = 8) (h : f + k ≤ 128) : Ctr Tryz.prog 182 [.agg #[.int .i64 (f : Int), .int .i64 ((f + k : Nat) : Int)], .pointer (some ⟨b, 0, none⟩)] [] (fun x => rdx (some ⟨b, 0, none⟩) 128 (cb B) x)
    (fun v M => v = .int .u64 ((ofLe ((B.drop f).take k) : Nat) : Int) ∧ M = []) := by
  have hB' : B.length = 128 := hB
  have e : ((f + k : Nat) : Int) - (f : Int) = (k : Int) := by omega
  have hl : ((B.drop f).take k).length = k := by simp; omega
  have e2 := getN_0 (B := (B.drop f).take k) (k := k) (by omega) hl
  refine Ctr.intro Tryz.func182 rfl Tryz.ntmps182 rfl fun x w hp => ?_
  have hp2 : rdx (some ⟨b, f, none⟩) k (cb ((B.drop f).take k)) x := by
    have := rdx_part rfl hp hB'.symm f k (by omega)
    rw [Nat.zero_add] at this; exact this
  refine wk ?_
  (refine CX.boxA (vs := [.int .i64 (f : Int), .int .i64 ((f + k : Nat) : Int)]) ?_; intro q)
  refine wk ?_
  refine CC.draw [(0, 1), (1, 0), (3, 0), (4, 1), (5, 0), (6, 1), (7, 0), (2, 2), (8, 2), (9, 0), (10, 0), (11, 0), (12, 0), (13, 0)] mixed rfl (by kernel_rfl) (by kernel_rfl) [bk q 242 [.int .i64 (f : Int), .int .i64 ((f + k : Nat) : Int)]] ?_
  (apply CH.read; (· rfl); (· apply PS.loadG (vs := [.int .i64 (f : Int), .int .i64 ((f + k : Nat) : Int)]); (· rfl); (· rfl); (· exact CellsAt.all (by first | exact pickA | exact updA)); (· rfl)); (· exact selA))
  refine hwk ?_
  refine CH.chain rfl fun K hK => ?_
  refine CX.callA (spof_c b f k (by omega) h) ?_
  rintro _ _ ⟨rfl, rfl⟩
  (refine CX.nil ?_; refine CQ.thenK ?_; apply hK; (· exact selA); clear hK K)
  refine hwk ?_
  rw [e]
  refine CH.chain rfl fun K hK => ?_
  have cc := nget_c ((B.drop f).take k) (some ⟨b, f, none⟩) k 0 (k : Int) (by omega) (by omega) (by omega)
  rw [hl, e2] at cc
  refine CX.callA (cc) ?_ (hpre := by exact rdx_ex (by first | exact pickA | exact updA) hp2)
  clear cc
  rintro _ _ ⟨rfl, rfl⟩
  (refine CX.nil ?_; refine CQ.thenK ?_; apply hK; (· exact selA); clear hK K)
  refine hwk ?_
  refine wk ?_
  ((apply CQ.end1; (· rfl); (· exact .tmp rfl)); (· exact ⟨rfl, rfl⟩); (· exact selA))
theorem ssum_c (b : Nat) (B : Blk) (hB : WB B) : Ctr Tryz.prog 185 [.pointer (some ⟨b, 0, none⟩)] [] (fun x => rdx (some ⟨b, 0, none⟩) 128 (cb B) x)
    (fun v M => v = .int .u64 ((crcM (B.take 116) : Nat) : Int) ∧ M = []) := by
  have hB' : B.length = 128 := hB
  have hl : (B.take 116).length = 116 := by simp; omega
  have hlt := crc_lt (B.take 116)
  have e : cutAt (some ⟨b, 0, none⟩) 0 116 1 = some ⟨b, 0, none⟩ := by unfold cutAt; simp [addr_add]
  refine Ctr.intro Tryz.func185 rfl Tryz.ntmps185 rfl fun x w hp => ?_
  have hp2 : rdx (some ⟨b, 0, none⟩) 116 (cb (B.take 116)) x := by
    have := rdx_part rfl hp hB'.symm 0 116 (by omega)
    simpa using this
  refine wk ?_
  refine CC.draw [(0, 0), (1, 0), (2, 3), (3, 0), (4, 3), (5, 0), (6, 0), (7, 3), (8, 0), (9, 0)] mixed rfl (by kernel_rfl) (by kernel_rfl) [] ?_
  refine hwk ?_
  refine CH.tail rfl rfl fun K hK => ?_
  refine CX.callA (scheck_c) ?_
  rintro _ _ ⟨rfl, rfl⟩
  (refine CX.nil ?_; refine CQ.thenK ?_; apply hK; clear hK K)
  refine hwk ?_
  refine CH.tail rfl rfl fun K hK => ?_
  refine CX.callA (scheck_c) ?_
  rintro _ _ ⟨rfl, rfl⟩
  (refine CX.nil ?_; refine CQ.thenK ?_; apply hK; clear hK K)
  refine hwk ?_
  (apply CH.pure; (· rfl); (· apply PS.sliceArr3 (l := 0) (h := 116) (m := 116); (· rfl); (· rfl); (· rfl); (· rfl); (· rfl); (· exact .inl ⟨rfl, rfl⟩); (· exact ⟨_, rfl⟩); (· omega); (· omega); (· omega)))
  rw [e]
  refine CH.tail rfl rfl fun K hK => ?_
  have cc := of_c (B.take 116) (by omega) (some ⟨b, 0, none⟩) 116
  rw [hl] at cc
  refine CX.callA (cc) ?_ (hpre := by exact rdx_ex (by first | exact pickA | exact updA) hp2)
  clear cc
  rintro _ _ ⟨rfl, rfl⟩
  (refine CX.nil ?_; refine CQ.thenK ?_; apply hK; clear hK K)
  refine hwk ?_
  refine wk ?_
  ((apply CQ.end1; (· rfl); (· exact .tmp rfl)); (· exact ⟨rfl, rfl⟩); (· exact selA))
theorem sput_c (n : Nat) (hn : n ≤ top) (body : Blk) (hb : body.length ≤ 9223372036854775807) (a : Option Addr) (cap : Nat) : Ctr Tryz.prog 177 [.int .u64 (n : Int), .slice a body.length cap] [] (fun x => rdx a body.length (cb body) x)
    (fun v M => v = .tuple #[.agg (cb (putM n body).1).toArray, .int .i64 (putM n body).2] ∧ M = []) := by
  refine Ctr.intro Tryz.func177 rfl Tryz.ntmps177 rfl fun x w hp => ?_
  refine wk ?_
  (refine CX.allocZ (cb zblk) ?_; intro r)
  refine wk ?_
  by_cases h1 : n = 0
  · have e : putM n body = (zblk, 2) := by unfold putM; rw [if_pos h1]
    rw [e]
    refine wk ?_
    ((apply CX.ps; (· apply PS.loadG (vs := cb (zblk)); (· rfl); (· rfl); (· exact CellsAt.all (by first | exact pickA | exact updA)); (· exact WB_z.len))))
    (apply CX.storeAll; (· rfl); (· rfl); (· rfl); (· first | exact pickA | exact updA); (· exact WB_z.len); (· exact WB_z.len); (· exact one_cb _))
    refine wk ?_
    ((apply CQ.end2; (· rfl); (· exact .cells inferInstance rfl (CellsAt.all (by first | exact pickA | exact updA)) (WB_z.len)); (· exact .tmp rfl)); (· exact ⟨rfl, rfl⟩); (· exact selA))
  by_cases h2 : 108 < body.length
  · have e : putM n body = (zblk, 3) := by unfold putM; rw [if_neg h1, if_pos h2]
    rw [e]
    refine wk ?_
    ((apply CX.ps; (· apply PS.loadG (vs := cb (zblk)); (· rfl); (· rfl); (· exact CellsAt.all (by first | exact pickA | exact updA)); (· exact WB_z.len))))
    (apply CX.storeAll; (· rfl); (· rfl); (· rfl); (· first | exact pickA | exact updA); (· exact WB_z.len); (· exact WB_z.len); (· exact one_cb _))
    refine wk ?_
    ((apply CQ.end2; (· rfl); (· exact .cells inferInstance rfl (CellsAt.all (by first | exact pickA | exact updA)) (WB_z.len)); (· exact .tmp rfl)); (· exact ⟨rfl, rfl⟩); (· exact selA))
  have e : putM n body = (sealB n body, 0) := by unfold putM; rw [if_neg h1, if_neg h2]
  rw [e]
  have hl : body.length ≤ 108 := by omega
  obtain ⟨w1, w2, w3⟩ := seal_WB (n := n) hl
  have w4 := sealB_WB (n := n) hl
  have hlt := crc_lt ((seal2 n body).take 116)
  refine wk ?_
  refine CX.callA (sbegin_c) ?_
  rintro _ _ ⟨rfl, rfl⟩
  refine wk ?_
  refine CX.callA (spput_c r 59 0 8 n zblk WB_z (by omega) (by omega) (by simp only [top] at hn; omega)) ?_
  rintro _ _ ⟨rfl, rfl⟩
  rw [show ins zblk 0 (le 8 n) = seal1 n from rfl]
  refine wk ?_
  refine CX.callA (sinner_c) ?_
  rintro _ _ ⟨rfl, rfl⟩
  refine wk ?_
  refine CX.callA (spof_c r 8 108 (by omega) (by omega)) ?_
  rintro _ _ ⟨rfl, rfl⟩
  refine wk ?_
  apply CX.copyBk (m := body.length) (news := cb body)
  · rfl
  · rfl
  · rfl
  · exact RdS.rdx (by first | exact pickA | exact updA) hp rfl
  · first | exact pickA | exact updA
  · exact (Nat.min_eq_left (by omega)).symm
  · have := w1.len; omega
  rw [List.take_of_length_le (by simp), cb_setL, show (seal1 n).take 8 ++ (body ++ (seal1 n).drop (8 + body.length)) = seal2 n body from rfl]
  refine wk ?_
  refine CX.callA (scheck_c) ?_
  rintro _ _ ⟨rfl, rfl⟩
  refine wk ?_
  have hw2 : (seal2 n body).length = 128 := w2
  refine CX.callA (ssum_c r (seal2 n body) w2) ?_ (hpre := by exact fun y hy => by have := rdx_bk (L := _) (t := 59) (b := r) (B := seal2 n body) (by first | exact pickA | exact updA) 0 128 (by omega) y hy; rwa [List.drop_zero, List.take_of_length_le (by omega)] at this)
  rintro _ _ ⟨rfl, rfl⟩
  refine wk ?_
  refine CX.callA (spput_c r 59 116 4 (crcM ((seal2 n body).take 116)) (seal2 n body) w2 (by omega) (by omega) hlt) ?_
  rintro _ _ ⟨rfl, rfl⟩
  rw [show ins (seal2 n body) 116 (le 4 (crcM ((seal2 n body).take 116))) = seal3 n body from rfl]
  refine wk ?_
  refine CX.callA (send_c) ?_
  rintro _ _ ⟨rfl, rfl⟩
  refine wk ?_
  refine CX.ps (PS.not64 n hn rfl rfl) ?_
  refine CX.callA (spput_c r 59 120 8 (18446744073709551615 - n) (seal3 n body) w3 (by omega) (by omega) (by omega)) ?_
  rintro _ _ ⟨rfl, rfl⟩
  rw [show 18446744073709551615 - n = top - n from rfl, seal4_eq hl]
  refine wk ?_
  ((apply CX.ps; (· apply PS.loadG (vs := cb (sealB n body)); (· rfl); (· rfl); (· exact CellsAt.all (by first | exact pickA | exact updA)); (· exact w4.len))))
  (apply CX.storeAll; (· rfl); (· rfl); (· rfl); (· first | exact pickA | exact updA); (· exact w4.len); (· exact w4.len); (· exact one_cb _))
  refine wk ?_
  ((apply CQ.end2; (· rfl); (· exact .cells inferInstance rfl (CellsAt.all (by first | exact pickA | exact updA)) (w4.len)); (· exact .tmp rfl)); (· exact ⟨rfl, rfl⟩); (· exact selA))
end Go.Proofs.YtlckhaodecdbbaaGreatDoor
/-! The journal in plain Lean: a batch's blocks, what is laid, what is read. No program in sight. -/
namespace Go.Cx
/-- Bytes in blocks, 0s behind them. -/
def chopB (R : Blk) : List Blk := (List.range ((R.length + 127) / 128)).map fun i => padB 128 ((R.drop (i * 128)).take 128)
def cutB (b : Blk) : List Blk := chopB (rowB b)
theorem chop_len (R : Blk) : (chopB R).length = (R.length + 127) / 128 := by simp [chopB]
theorem chop_WB (R : Blk) : ∀ b ∈ chopB R, WB b := fun b hb => by
  simp only [chopB, List.mem_map] at hb
  obtain ⟨i, _, rfl⟩ := hb
  exact padB_len (by simp; omega)
theorem chop_at (R : Blk) (k : Nat) (h : k < (chopB R).length) : (chopB R)[k] = padB 128 ((R.drop (k * 128)).take 128) := by simp [chopB]
theorem rowB_length (b : Blk) : (rowB b).length = 4 + b.length := by simp [rowB]
theorem cut_len (b : Blk) : (cutB b).length = (b.length + 131) / 128 := by
  unfold cutB; rw [chop_len, rowB_length]; congr 1; omega
/-- A journal's number and head. -/
structure JM where
  n : Nat
  h : HdM
def bankM (D : DS) : Nat := (D.sure.length - 2) / 2
def firstM (D : DS) (b : Nat) : Nat := 2 + b * bankM D
def bothM (D : DS) : Blk × Blk × Int := if (D.read 0).2 ≠ 0 then ((D.read 0).1, zblk, (D.read 0).2) else ((D.read 0).1, (D.read 1).1, (D.read 1).2)
def markM (J : JM) (h : HdM) (D : DS) : Int × DS :=
  if (bothM D).2.2 ≠ 0 then ((bothM D).2.2, D) else if (putH (J.n + 1) h).2 ≠ 0 then ((putH (J.n + 1) h).2, D) else D.write (nextM (bothM D).1 (bothM D).2.1) (putH (J.n + 1) h).1
/-- Steps, up to the first one that is refused. -/
def runM : List (DS → Int × DS) → DS → Int × DS
  | [], D => (0, D)
  | f :: l, D => if (f D).1 ≠ 0 then f D else runM l (f D).2
def writesM (at_ : Nat) (l : List Blk) : List (DS → Int × DS) := (List.range l.length).map fun (i : Nat) (D : DS) => D.write ((at_ : Int) + (i : Int)) (l.getD i [])
def layS (J : JM) (at_ : Nat) (l : List Blk) (h : HdM) : List (DS → Int × DS) := writesM at_ l ++ [DS.flush, markM J h, DS.flush]
def layM (J : JM) (at_ : Nat) (l : List Blk) (h : HdM) (D : DS) : Int × JM × DS :=
  if (runM (layS J at_ l h) D).1 ≠ 0 then ((runM (layS J at_ l h) D).1, J, (runM (layS J at_ l h) D).2) else (0, ⟨J.n + 1, h⟩, (runM (layS J at_ l h) D).2)
theorem wf_up {D : DS} {N M : Nat} (h : D.wf N) (k : N ≤ M) : D.wf M := ⟨h.lo, h.hi, h.wb, h.lb, h.left0, h.left1, by have := h.steps; omega, by have := h.loose; omega⟩
theorem lit_lt {D : DS} {n : Int} (h : D.lit n = 0) : n.toNat < D.sure.length := by
  unfold DS.lit DS.there errOf at h
  split at h
  · cases h
  · split at h
    · omega
    · cases h
theorem stepM_wf {D : DS} {N : Nat} (h : D.wf N) : D.step.2.wf (N + 1) := by
  have h1 := h.left0; have h2 := h.left1; have h3 := h.steps; have h4 := h.loose
  unfold DS.step
  split
  · exact ⟨h.lo, h.hi, h.wb, h.lb, h1, h2, by simp; omega, by simp; omega⟩
  · exact ⟨h.lo, h.hi, h.wb, h.lb, by simp; omega, by simp; omega, by simp; omega, by simp; omega⟩
theorem step_sure (D : DS) : D.step.2.sure = D.sure ∧ D.step.2.loose = D.loose := by unfold DS.step; split <;> exact ⟨rfl, rfl⟩
theorem write_wf {D : DS} {N : Nat} (h : D.wf N) (n : Int) {b : Blk} (hb : WB b) : (D.write n b).2.wf (N + 1) := by
  unfold DS.write
  split
  · exact wf_up h (by omega)
  · rename_i hl
    have hl' : D.lit n = 0 := by omega
    split
    · have hs := stepM_wf h
      have e := step_sure D
      refine ⟨hs.lo, hs.hi, hs.wb, fun p hp => ?_, hs.left0, hs.left1, hs.steps, ?_⟩
      · dsimp only at hp ⊢
        rcases List.mem_append.1 hp with hp | hp
        · exact hs.lb p hp
        · obtain rfl := List.mem_singleton.1 hp
          rw [e.1]; exact ⟨lit_lt hl', hb⟩
      · dsimp only
        rw [e.2, List.length_append, List.length_singleton]
        have := h.loose; omega
    · exact stepM_wf h
theorem flush_wf {D : DS} {N : Nat} (h : D.wf N) : D.flush.2.wf (N + 1) := by
  unfold DS.flush
  split
  · exact wf_up h (by omega)
  · split
    · exact settle_wf (stepM_wf h) [] 128
    · exact stepM_wf h
theorem putH_WB (n : Nat) (h : HdM) : WB (putH n h).1 := by
  unfold putH; split
  · exact WB_z
  · exact sealB_WB (by rw [bytes_len]; omega)
theorem mark_wf {J : JM} {k : HdM} {D : DS} {N : Nat} (h : D.wf N) : (markM J k D).2.wf (N + 1) := by
  unfold markM
  split
  · exact wf_up h (by omega)
  · split
    · exact wf_up h (by omega)
    · exact write_wf h _ (putH_WB _ _)
/-! ### What is read -/
def rdAll (D : DS) (f : Nat) : Nat → Nat → Blk → Blk × Int
  | _, 0, acc => (acc, 0)
  | i, n + 1, acc => if (D.read ((f : Int) + (i : Int))).2 ≠ 0 then ([], (D.read ((f : Int) + (i : Int))).2) else rdAll D f (i + 1) n (acc ++ (D.read ((f : Int) + (i : Int))).1)
def upB (n : Nat) : Nat := (n + 127) / 128 * 128
def parseM : Nat → List Blk → Blk → List Blk × Int
  | 0, l, all => if 0 < all.length then ([], 5) else (l, 0)
  | k + 1, l, all =>
    if (Cx.rowAt all 0 1048576).2.2 ≠ 0 then ([], 5)
    else if ∃ c ∈ (all.drop (Cx.rowAt all 0 1048576).2.1).take (upB (Cx.rowAt all 0 1048576).2.1 - (Cx.rowAt all 0 1048576).2.1), c ≠ 0 then ([], 5)
    else parseM k (l ++ [(Cx.rowAt all 0 1048576).1]) (all.drop (upB (Cx.rowAt all 0 1048576).2.1))
def readM (J : JM) (D : DS) : List Blk × Int :=
  if bankM D < J.h.blocks then ([], 5)
  else if (rdAll D (firstM D J.h.bank) 0 J.h.blocks []).2 ≠ 0 then ([], (rdAll D (firstM D J.h.bank) 0 J.h.blocks []).2)
  else parseM J.h.batches [] (rdAll D (firstM D J.h.bank) 0 J.h.blocks []).1
/-! ### The methods -/
def askedM (D : DS) (b : Blk) : List Blk × Int := if 1048576 < b.length then ([], 3) else if D.dark then ([], 9) else (cutB b, 0)
def appendM (J : JM) (D : DS) (b : Blk) : Int × JM × DS :=
  if (askedM D b).2 ≠ 0 then ((askedM D b).2, J, D)
  else if (bankM D : Int) - (J.h.blocks : Int) < ((askedM D b).1.length : Int) then (10, J, D)
  else layM J (firstM D J.h.bank + J.h.blocks) (askedM D b).1 ⟨J.h.bank, J.h.blocks + (askedM D b).1.length, J.h.batches + 1⟩ D
def replaceM (J : JM) (D : DS) (b : Blk) : Int × JM × DS :=
  if (askedM D b).2 ≠ 0 then ((askedM D b).2, J, D)
  else if bankM D < (askedM D b).1.length then (10, J, D)
  else layM J (firstM D (1 - J.h.bank)) (askedM D b).1 ⟨1 - J.h.bank, (askedM D b).1.length, 1⟩ D
def makeM (D : DS) : Int × JM × DS := layM ⟨0, HdM.z⟩ 0 [zblk, zblk] HdM.z D
def openM (D : DS) : Int × JM :=
  if (bothM D).2.2 ≠ 0 then ((bothM D).2.2, ⟨0, HdM.z⟩)
  else if (newH (bothM D).1 (bothM D).2.1).2.2 ≠ 0 ∨ 2305843009213693952 < (newH (bothM D).1 (bothM D).2.1).1 then (5, ⟨0, HdM.z⟩)
  else ((readM ⟨(newH (bothM D).1 (bothM D).2.1).1, (newH (bothM D).1 (bothM D).2.1).2.1⟩ D).2, ⟨(newH (bothM D).1 (bothM D).2.1).1, (newH (bothM D).1 (bothM D).2.1).2.1⟩)
theorem asked_len (D : DS) (b : Blk) : (askedM D b).1.length ≤ 8194 := by
  unfold askedM
  split
  · simp
  · split
    · simp
    · rename_i h _; dsimp only; rw [cut_len]; omega
theorem asked_WB (D : DS) (b : Blk) : ∀ x ∈ (askedM D b).1, WB x := by
  unfold askedM
  split
  · intro x hx; cases hx
  · split
    · intro x hx; cases hx
    · exact chop_WB _
end Go.Cx
/-! The journal in plain Lean: what is laid is read. No program in sight. -/
namespace Go.Cx
/-! ### Cut, and read again -/
theorem chop_nil : chopB [] = [] := rfl
theorem chop_cons {R : Blk} (h : 0 < R.length) : chopB R = padB 128 (R.take 128) :: chopB (R.drop 128) := by
  unfold chopB
  rw [show (R.length + 127) / 128 = ((R.drop 128).length + 127) / 128 + 1 by simp; omega, List.range_succ_eq_map, List.map_cons, List.map_map]
  simp only [Nat.zero_mul, List.drop_zero]
  congr 1
  apply List.map_congr_left
  intro i _
  simp only [Function.comp]
  rw [List.drop_drop, show 128 + i * 128 = (i + 1) * 128 by omega]
theorem chop_flat : ∀ (m : Nat) (R : Blk), R.length ≤ m → (chopB R).flatten = R ++ List.replicate (upB R.length - R.length) 0
  | 0, R, h => by
    obtain rfl : R = [] := List.length_eq_zero_iff.1 (by omega)
    simp [chop_nil, upB]
  | m + 1, R, h => by
    by_cases h0 : 0 < R.length
    · rw [chop_cons h0, List.flatten_cons, chop_flat m _ (by simp; omega)]
      by_cases h1 : R.length ≤ 128
      · have e1 : R.drop 128 = [] := List.drop_of_length_le h1
        have e2 : R.take 128 = R := List.take_of_length_le h1
        rw [e1, e2]
        simp only [padB, List.nil_append, List.length_nil, upB]
        rw [show (R.length + 127) / 128 * 128 - R.length = 128 - R.length by omega]
        simp
      · have e2 : padB 128 (R.take 128) = R.take 128 := by
          have : (R.take 128).length = 128 := by simp; omega
          unfold padB; rw [this]; simp
        rw [e2, ← List.append_assoc, List.take_append_drop]
        congr 2
        simp only [List.length_drop, upB]; omega
    · obtain rfl : R = [] := List.length_eq_zero_iff.1 (by omega)
      simp [chop_nil, upB]
theorem cut_flat (b : Blk) : (cutB b).flatten = rowB b ++ List.replicate (upB (4 + b.length) - (4 + b.length)) 0 := by
  have := chop_flat _ (rowB b) (Nat.le_refl _)
  rw [rowB_length] at this; exact this
def Cut (bs : List Blk) : List Blk := (bs.map cutB).flatten
theorem Cut_snoc (bs : List Blk) (b : Blk) : Cut (bs ++ [b]) = Cut bs ++ cutB b := by simp [Cut]
theorem Cut_one (b : Blk) : Cut [b] = cutB b := by simp [Cut]
theorem Cut_cons (b : Blk) (bs : List Blk) : Cut (b :: bs) = cutB b ++ Cut bs := by simp [Cut]
theorem cut_pos (b : Blk) : 1 ≤ (cutB b).length := by rw [cut_len]; omega
theorem Cut_len_ge (bs : List Blk) : bs.length ≤ (Cut bs).length := by
  induction bs with
  | nil => simp
  | cons b bs ih => rw [Cut_cons, List.length_append, List.length_cons]; have := cut_pos b; omega
theorem Cut_WB (bs : List Blk) : ∀ x ∈ Cut bs, WB x := fun x hx => by
  simp only [Cut, List.mem_flatten, List.mem_map] at hx
  obtain ⟨_, ⟨b, _, rfl⟩, hx⟩ := hx
  exact chop_WB _ x hx
theorem upB_ge' (n : Nat) : n ≤ upB n := by unfold upB; omega
theorem parse_print : ∀ (bs l : List Blk), (∀ b ∈ bs, b.length ≤ 1048576) → parseM bs.length l (Cut bs).flatten = (l ++ bs, 0)
  | [], l, _ => by simp [parseM, Cut]
  | b :: bs, l, h => by
    have hb := h b (by simp)
    have e : (Cut (b :: bs)).flatten = rowB b ++ (List.replicate (upB (4 + b.length) - (4 + b.length)) 0 ++ (Cut bs).flatten) := by
      rw [Cut_cons, List.flatten_append, cut_flat, List.append_assoc]
    have hr : Cx.rowAt (Cut (b :: bs)).flatten 0 1048576 = (b, 0 + 4 + b.length, 0) := rowAt_print (by omega) (by rw [List.drop_zero]; exact e) hb (by omega)
    have hg := upB_ge' (4 + b.length)
    have e1 : (Cut (b :: bs)).flatten.drop (4 + b.length) = List.replicate (upB (4 + b.length) - (4 + b.length)) 0 ++ (Cut bs).flatten := by
      rw [e, List.drop_append, List.drop_of_length_le (by rw [rowB_length]; omega), rowB_length]; simp
    have e2 : (Cut (b :: bs)).flatten.drop (upB (4 + b.length)) = (Cut bs).flatten := by
      rw [show upB (4 + b.length) = (4 + b.length) + (upB (4 + b.length) - (4 + b.length)) by omega, ← List.drop_drop, e1, List.drop_append]
      simp
    rw [List.length_cons, parseM, hr]
    simp only [ne_eq, not_true_eq_false, if_false, Nat.zero_add]
    rw [e1, if_neg, e2, parse_print bs _ (fun x hx => h x (by simp [hx]))]
    · simp
    · rintro ⟨c, hc, hn⟩
      rw [List.take_append_of_le_length (by simp)] at hc
      exact hn (List.eq_of_mem_replicate (List.mem_of_mem_take hc))
theorem rdAll_eq {D : DS} {f : Nat} : ∀ (n i : Nat) (acc : Blk) (g : Nat → Blk), (∀ k, i ≤ k → k < i + n → D.read ((f : Int) + (k : Int)) = (g k, 0)) → rdAll D f i n acc = (acc ++ ((List.range' i n).map g).flatten, 0)
  | 0, i, acc, g, _ => by simp [rdAll]
  | n + 1, i, acc, g, h => by
    have h0 := h i (Nat.le_refl _) (by omega)
    rw [rdAll, h0]
    simp only [ne_eq, not_true_eq_false, if_false]
    rw [rdAll_eq n (i + 1) _ g (fun k h1 h2 => h k (by omega) (by omega)), List.range'_succ]
    simp
/-! ### Slots -/
/-- A block that counts less than any sealed one of number m. -/
structure Slot (m : Nat) (X : Blk) : Prop where
  wb : WB X
  beg : ∃ b, b ≤ 60 ∧ X.take 8 = le 8 b
  fin : ∀ j, m ≤ j → j ≤ 60 → X.drop 120 ≠ le 8 (top - j)
theorem Slot.up {m k : Nat} {X : Blk} (h : Slot m X) (hk : m ≤ k) : Slot k X := ⟨h.wb, h.beg, fun j h1 h2 => h.fin j (by omega) h2⟩
theorem le8_inj {a b : Nat} (ha : a ≤ top) (hb : b ≤ top) (e : le 8 a = le 8 b) : a = b := by
  have := congrArg ofLe e
  rwa [ofLe8 ha, ofLe8 hb] at this
theorem Slot.valid {m : Nat} {X : Blk} (h : Slot m X) (v : Valid X) : ofLe (X.take 8) < m := by
  obtain ⟨b, hb, e⟩ := h.beg
  have h1 := v.fin
  have ht : (60 : Nat) ≤ top := by decide
  have eb : ofLe (X.take 8) = b := by rw [e, ofLe8 (by omega)]
  rw [eb] at h1 ⊢
  refine Decidable.byContradiction fun hn => h.fin b (by omega) hb ?_
  have w : X.length = 128 := h.wb
  have := le_ofLe (X.drop 120)
  rw [show (X.drop 120).length = 8 by simp; omega, h1] at this
  exact this.symm
theorem Slot.num {m : Nat} {X : Blk} (h : Slot m X) (hm : 1 ≤ m) : (getM X).1 < m := by
  by_cases v : Valid X
  · rw [get_ok v]; exact h.valid v
  · rw [(get_bad v).1]; omega
theorem getH_num (X : Blk) : (getH X).1 ≤ (getM X).1 := by
  unfold getH
  split
  · exact Nat.zero_le _
  · split
    · exact Nat.zero_le _
    · exact Nat.le_refl _
theorem slot_z {m : Nat} (hm : 1 ≤ m) : Slot m zblk :=
  ⟨WB_z, ⟨0, by omega, by decide⟩, fun j h1 h2 e => by
    have e0 : zblk.drop 120 = le 8 0 := by decide
    rw [e0] at e
    have := le8_inj (by decide) (by omega) e
    simp only [top] at this; omega⟩
theorem slot_seal {n m : Nat} {b : Blk} (hn : n < m) (h60 : n ≤ 60) (hb : b.length ≤ 108) : Slot m (sealB n b) :=
  ⟨sealB_WB hb, ⟨n, h60, sealB_8 n b⟩, fun j h1 h2 e => by
    rw [sealB_120 hb] at e
    have := le8_inj (by omega) (by omega) e
    simp only [top] at this; omega⟩
theorem torn_take {a b : Blk} {n : Nat} (hb : WB b) (hn : n ≤ 128) {k : Nat} (hk : k ≤ n) : (torn a b n).take k = b.take k := by
  unfold torn
  have hb' : b.length = 128 := hb
  rw [List.take_append_of_le_length (by simp; omega), List.take_take, Nat.min_eq_left hk]
theorem torn_drop {a b : Blk} {n : Nat} (hb : WB b) (hn : n ≤ 128) {k : Nat} (hk : n ≤ k) : (torn a b n).drop k = a.drop k := by
  unfold torn
  have hb' : b.length = 128 := hb
  have hl : (b.take n).length = n := by simp; omega
  rw [List.drop_append, List.drop_of_length_le (by omega), hl, List.nil_append, List.drop_drop]
  congr 1; omega
theorem le8_small {b : Nat} (hb : b ≤ 60) : le 8 b = UInt8.ofNat b :: [0, 0, 0, 0, 0, 0, 0] := by
  have : ∀ b, b ≤ 60 → le 8 b = UInt8.ofNat b :: [0, 0, 0, 0, 0, 0, 0] := by decide
  exact this b hb
theorem le8_top {b : Nat} (hb : b ≤ 60) : le 8 (top - b) = UInt8.ofNat (255 - b) :: [255, 255, 255, 255, 255, 255, 255] := by
  have : ∀ b, b ≤ 60 → le 8 (top - b) = UInt8.ofNat (255 - b) :: [255, 255, 255, 255, 255, 255, 255] := by decide
  exact this b hb
/-- Of a block of number m a beginning is written over one that counts less. -/
theorem slot_torn {m0 m : Nat} {X h : Blk} (hs : Slot m0 X) (h60 : m ≤ 60) (hh : h.length ≤ 108) {n : Nat} (hn : n ≤ 128) : torn X (sealB m h) n = sealB m h ∨ Slot m0 (torn X (sealB m h) n) := by
  have hw := sealB_WB (n := m) hh
  have hw' : (sealB m h).length = 128 := hw
  have hX : X.length = 128 := hs.wb
  obtain ⟨b, hb, eb⟩ := hs.beg
  by_cases h120 : n ≤ 120
  · right
    refine ⟨torn_len hs.wb hw, ?_, fun j h1 h2 => ?_⟩
    · by_cases h0 : n = 0
      · subst h0; refine ⟨b, hb, ?_⟩; unfold torn; simpa using eb
      · refine ⟨m, h60, ?_⟩
        by_cases h8 : 8 ≤ n
        · rw [torn_take hw hn h8, sealB_8]
        · have e1 : (torn X (sealB m h) n).take 8 = (sealB m h).take n ++ (X.take 8).drop n := by
            unfold torn
            rw [List.take_append, List.take_of_length_le (by simp; omega), List.drop_take]
            simp only [List.length_take, hw', show min n 128 = n by omega]
          have e2 : (sealB m h).take n = (le 8 m).take n := by rw [← sealB_8 m h, List.take_take, Nat.min_eq_left (by omega)]
          rw [e1, e2, eb, le8_small hb, le8_small h60]
          have h0' : n = 1 ∨ n = 2 ∨ n = 3 ∨ n = 4 ∨ n = 5 ∨ n = 6 ∨ n = 7 := by omega
          rcases h0' with rfl | rfl | rfl | rfl | rfl | rfl | rfl <;> rfl
    · rw [torn_drop hw hn h120]; exact hs.fin j h1 h2
  · by_cases he : (torn X (sealB m h) n).drop 120 = le 8 (top - m)
    · left
      have e1 := torn_take (a := X) hw hn (show 120 ≤ n by omega)
      rw [← List.take_append_drop 120 (torn X (sealB m h) n), e1, he, ← sealB_120 (n := m) hh, List.take_append_drop]
    · right
      refine ⟨torn_len hs.wb hw, ⟨m, h60, by rw [torn_take hw hn (by omega), sealB_8]⟩, fun j h1 h2 e => ?_⟩
      by_cases hj : j = m
      · subst hj; exact he e
      · have e1 := torn_take (a := X) hw hn (show 121 ≤ n by omega)
        have e2 := congrArg (fun l : Blk => l.drop 120) e1
        simp only [List.drop_take, sealB_120 hh, e, le8_top h2, le8_top h60] at e2
        simp at e2
        have e3 := congrArg UInt8.toNat e2
        simp at e3
        omega
/-! ### What stands on a disk -/
def bankS (S : List Blk) : Nat := (S.length - 2) / 2
def firstS (S : List Blk) (b : Nat) : Nat := 2 + b * bankS S
structure JSt (S : List Blk) (J : JM) (bs : List Blk) : Prop where
  lo : 64 ≤ S.length
  hi : S.length ≤ 4096
  wb : ∀ b ∈ S, WB b
  n1 : 1 ≤ J.n
  n2 : J.n ≤ 60
  may : J.h.may
  blocks : J.h.blocks = (Cut bs).length
  batches : J.h.batches = bs.length
  room : J.h.blocks ≤ bankS S
  sz : ∀ b ∈ bs, b.length ≤ 1048576
  cnt : ∀ i, i < J.h.blocks → S.getD (firstS S J.h.bank + i) [] = (Cut bs).getD i []
  heads : ∃ s, s < 2 ∧ S.getD s [] = (putH J.n J.h).1 ∧ Slot J.n (S.getD (1 - s) [])
/-- What counts. -/
def Live (S : List Blk) (J : JM) (k : Nat) : Prop := k < 2 ∨ (firstS S J.h.bank ≤ k ∧ k < firstS S J.h.bank + J.h.blocks)
theorem JSt.congr {S S' : List Blk} {J : JM} {bs : List Blk} (h : JSt S J bs) (hl : S'.length = S.length) (hw : ∀ b ∈ S', WB b) (he : ∀ k, Live S J k → S'.getD k [] = S.getD k []) : JSt S' J bs := by
  have hb : bankS S' = bankS S := by unfold bankS; rw [hl]
  have hf : ∀ b, firstS S' b = firstS S b := fun b => by unfold firstS; rw [hb]
  obtain ⟨s, h1, h2, h3⟩ := h.heads
  refine ⟨by rw [hl]; exact h.lo, by rw [hl]; exact h.hi, hw, h.n1, h.n2, h.may, h.blocks, h.batches, by rw [hb]; exact h.room, h.sz, fun i hi => ?_, s, h1, ?_, ?_⟩
  · rw [hf, he _ (.inr ⟨by omega, by omega⟩)]; exact h.cnt i hi
  · rw [he s (.inl h1)]; exact h2
  · rw [he (1 - s) (.inl (by omega))]; exact h3
theorem putH_ok {n : Nat} {h : HdM} (h1 : 1 ≤ n) (h2 : n ≤ 60) (hm : h.may) : putH n h = (sealB n h.bytes, 0) := by
  unfold putH; rw [if_neg]
  rintro (a | a | a)
  · omega
  · unfold most at a; omega
  · exact a hm
theorem JSt.newest {S : List Blk} {J : JM} {bs : List Blk} (h : JSt S J bs) : newH (S.getD 0 []) (S.getD 1 []) = (J.n, J.h, 0) ∧ ∃ s : Nat, s < 2 ∧ nextM (S.getD 0 []) (S.getD 1 []) = ((1 - s : Nat) : Int) ∧ S.getD s [] = (putH J.n J.h).1 ∧ Slot J.n (S.getD (1 - s) []) := by
  obtain ⟨s, h1, h2, h3⟩ := h.heads
  have hp := putH_ok h.n1 h.n2 h.may
  have hg : getH (sealB J.n J.h.bytes) = (J.n, J.h, 0) := by
    have := (get_put (n := J.n) (h := J.h) (by rw [hp])).2.2.2.2; rwa [hp] at this
  have hm : (getM (sealB J.n J.h.bytes)).1 = J.n := by rw [get_sealB h.n1 (Nat.le_trans h.n2 (by decide)) (by rw [bytes_len]; omega)]
  have hn := h3.num h.n1
  have hn2 := getH_num (S.getD (1 - s) [])
  have h1' := h.n1
  rw [hp] at h2
  dsimp only at h2
  refine ⟨?_, s, h1, ?_, by rw [hp]; exact h2, h3⟩
  · match s, h1 with
    | 0, _ =>
      rw [newH_eq, h2, hg, if_neg (by simp), if_neg (by simp only [Nat.sub_zero] at hn2 hn; omega)]
    | 1, _ =>
      rw [newH_eq, h2, hg, if_neg (by simp), if_pos (by simp only [Nat.sub_self] at hn2 hn; omega)]
  · match s, h1 with
    | 0, _ =>
      unfold nextM
      simp only [Nat.sub_zero] at hn
      rw [h2, hm, if_neg (by omega), if_neg (by omega)]; rfl
    | 1, _ =>
      unfold nextM
      simp only [Nat.sub_self] at hn
      rw [h2, hm, if_neg (by omega), if_pos (by omega)]; rfl
/-- A disk on which no write is under way, in the light. -/
structure Calm (D : DS) : Prop where
  lit : D.dark = false
  loose : D.loose = []
theorem Calm.litAt {D : DS} (h : Calm D) {k : Nat} (hk : k < D.sure.length) : D.lit (k : Int) = 0 := by
  unfold DS.lit DS.there errOf
  rw [h.lit, if_neg (by simp), if_pos (by omega)]
theorem Calm.read {D : DS} (h : Calm D) {k : Nat} (hk : k < D.sure.length) : D.read (k : Int) = (D.sure.getD k [], 0) := by
  unfold DS.read
  rw [h.litAt hk, if_neg (by simp)]
  simp [DS.get, h.loose]
theorem Calm.both {D : DS} (h : Calm D) (hl : 64 ≤ D.sure.length) : bothM D = (D.sure.getD 0 [], D.sure.getD 1 [], 0) := by
  unfold bothM
  have h0 := h.read (k := 0) (by omega)
  have h1 := h.read (k := 1) (by omega)
  simp only [Int.ofNat_zero, Int.ofNat_one] at h0 h1
  rw [h0, h1]; simp
theorem bank_eq (D : DS) : bankM D = bankS D.sure := rfl
theorem first_eq (D : DS) (b : Nat) : firstM D b = firstS D.sure b := rfl
theorem first_le {S : List Blk} {b i : Nat} (h64 : 64 ≤ S.length) (hb : b < 2) (hi : i < bankS S) : firstS S b + i < S.length := by
  unfold firstS bankS at *
  have : b = 0 ∨ b = 1 := by omega
  rcases this with rfl | rfl <;> omega
theorem JSt.read {D : DS} {J : JM} {bs : List Blk} (h : JSt D.sure J bs) (c : Calm D) : readM J D = (bs, 0) := by
  have hr := h.room
  unfold readM
  rw [bank_eq, first_eq, if_neg (by omega)]
  have e := rdAll_eq (D := D) (f := firstS D.sure J.h.bank) J.h.blocks 0 [] (fun i => (Cut bs).getD i []) (fun k _ hk => by
    have hlt := first_le h.lo h.may.1 (i := k) (by omega)
    have := c.read hlt
    rw [show ((firstS D.sure J.h.bank : Nat) : Int) + (k : Int) = ((firstS D.sure J.h.bank + k : Nat) : Int) by omega, this, h.cnt k (by omega)])
  have e2 : (List.range' 0 J.h.blocks).map (fun i => (Cut bs).getD i []) = Cut bs := by
    apply List.ext_getElem
    · simp [h.blocks]
    · intro i h1 h2
      simp [h2]
  rw [e2] at e
  rw [e]
  simp only [ne_eq, not_true_eq_false, if_false, List.nil_append]
  rw [h.batches, parse_print bs [] h.sz]; rfl
theorem JSt.opens {D : DS} {J : JM} {bs : List Blk} (h : JSt D.sure J bs) (c : Calm D) : openM D = (0, J) := by
  unfold openM
  rw [c.both h.lo]
  simp only [ne_eq, not_true_eq_false, if_false]
  rw [h.newest.1]
  have hn := h.n2
  simp only [not_true_eq_false, false_or]
  rw [if_neg (by omega), show (⟨J.n, J.h⟩ : JM) = J from rfl, h.read c]
end Go.Cx
