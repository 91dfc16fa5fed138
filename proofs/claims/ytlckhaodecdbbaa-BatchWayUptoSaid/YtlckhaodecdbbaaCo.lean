/- Stepping: slices that are owned, append, copy, slice expressions, arrays. No program in sight. -/
import Derived.Test.YtlckhaodecdbbaaCc
import Derived.Maps.AppendAt
import Derived.OwnWalk
set_option linter.unusedSimpArgs false
set_option linter.unusedVariables false
namespace Go.Cx

class InfA (P : Program) (e : TypeId) (sz bytes : outParam Nat) (z : outParam Value) : Prop where
  inf : (P.info? e).map (fun i => (i.zero, i.size, i.bytes)) = some (some z, sz, bytes)
  zs : z.cells.size = sz
  pos : 0 < sz
  bpos : 0 < bytes

/-- A slice of whose array we may dispose: its elements' cells are xs; nil has no elements. -/
@[irreducible] def own (e sz : Nat) (a : Option Addr) (n cap : Nat) (xs : List Value) : Assn where
  ok h := xs.length = n * sz ∧ n ≤ cap ∧ cap ≤ maxLen ∧
    ((a = none ∧ cap = 0) ∨ ∃ g cur, a = some ⟨g, 0, none⟩ ∧ h g = some (.cells cur e (0, 0)) ∧ cur.size = cap * sz ∧ cur.toList.take (n * sz) = xs)
  mono := fun _ _ l ⟨h1, h2, h3, h4⟩ => ⟨h1, h2, h3, h4.imp id fun ⟨g, cur, e1, e2, e3⟩ => ⟨g, cur, e1, l _ _ e2, e3⟩⟩

theorem own_ok {e sz n cap : Nat} {a : Option Addr} {xs : List Value} {h : PH} : (own e sz a n cap xs).ok h ↔ xs.length = n * sz ∧ n ≤ cap ∧ cap ≤ maxLen ∧
    ((a = none ∧ cap = 0) ∨ ∃ g cur, a = some ⟨g, 0, none⟩ ∧ h g = some (.cells cur e (0, 0)) ∧ cur.size = cap * sz ∧ cur.toList.take (n * sz) = xs) := by
  unfold own; exact Iff.rfl

theorem own_row {e sz n cap : Nat} {a : Option Addr} {xs : List Value} {w : World} (h : (own e sz a n cap xs).ok w.ph) : w.ownsRow 0 e sz (.slice a n cap) n xs := by
  obtain ⟨h1, h2, h3, h4⟩ := own_ok.1 h
  refine ⟨h1, ?_⟩
  rcases h4 with ⟨rfl, rfl⟩ | ⟨g, cur, rfl, hg, hs, ht⟩
  · have : n = 0 := by omega
    subst this; exact .inl ⟨rfl, rfl⟩
  · exact .inr ⟨g, cap, cur, rfl, Nat.zero_le _, hg, h2, h3, hs, ht⟩

theorem own_of_row {e sz n : Nat} {v : Value} {xs : List Value} {w : World} (h : w.ownsRow 0 e sz v n xs) : ∃ a cap, v = .slice a n cap ∧
    ((a = none) ∨ ∃ g, a = some ⟨g, 0, none⟩) ∧ ∀ k : PH, (∀ g, a = some ⟨g, 0, none⟩ → k g = w.ph g) → (own e sz a n cap xs).ok k := by
  obtain ⟨h1, h2⟩ := h
  rcases h2 with ⟨rfl, rfl⟩ | ⟨g, cap, cur, rfl, _, hg, hn, hc, hs, ht⟩
  · exact ⟨none, 0, rfl, .inl rfl, fun k _ => own_ok.2 ⟨h1, Nat.le_refl _, Nat.zero_le _, .inl ⟨rfl, rfl⟩⟩⟩
  · exact ⟨_, cap, rfl, .inr ⟨g, rfl⟩, fun k hk => own_ok.2 ⟨h1, hn, hc, .inr ⟨g, cur, rfl, by rw [hk g rfl]; exact hg, hs, ht⟩⟩⟩

theorem Sep.replace {A A' : Assn} {L M : List Assn} {h h' : PH} (p : Pick A L M) (s : Sep L h)
    (hA : ∀ S, A.ok (h.only S) → ∃ S', A'.ok (h'.only S') ∧ Le (h.less S) (h'.less S')) : Sep (A' :: M) h' := by
  obtain ⟨S, a, b⟩ := p.sep s
  obtain ⟨S', a', l⟩ := hA S a
  exact ⟨S', a', b.mono l⟩

theorem Sep.ownNil (e sz : Nat) {L : List Assn} {h : PH} (s : Sep L h) : Sep (own e sz none 0 0 [] :: L) h :=
  ⟨fun _ => false, own_ok.2 ⟨by simp, Nat.le_refl _, Nat.zero_le _, .inl ⟨rfl, rfl⟩⟩, by
    have : h.less (fun _ => false) = h := by funext x; simp [PH.less]
    rw [this]; exact s⟩

/-- The cells of a slice's elements, to be read. -/
def RdS (L : List Assn) (b : Option Addr) (len : Nat) (news : List Value) : Prop :=
  (∀ u ∈ news, u.oneCell' = true) ∧
    ∀ h, Sep L h → news.length = len ∧ (len = 0 ∨ ∃ g off cs t fr, b = some ⟨g, off, none⟩ ∧ h g = some (.cells cs t fr) ∧ ∀ j u, news[j]? = some u → cs[off + j]? = some u)

theorem RdS.nil (L : List Assn) (b : Option Addr) : RdS L b 0 [] := ⟨by simp, fun _ _ => ⟨rfl, .inl rfl⟩⟩
theorem RdS.pick {L L' : List Assn} {b t o len : Nat} {cs news : List Value} (p : Pick (bk b t cs) L L') (hn : news.length = len) (h1 : ∀ u ∈ news, u.oneCell' = true) (hc : (cs.drop o).take len = news) : RdS L (some ⟨b, o, none⟩) len news := by
  refine ⟨h1, fun h s => ⟨hn, .inr ⟨b, o, _, _, _, rfl, bk_ok.1 (p.ok s), fun j v hv => ?_⟩⟩⟩
  have hj : j < len := by have := (List.getElem?_eq_some_iff.1 hv).1; omega
  rw [← hc, List.getElem?_take] at hv
  simpa [hj] using hv
theorem RdS.own {L L' : List Assn} {e sz n cap len : Nat} {a : Option Addr} {xs : List Value} (p : Pick (Cx.own e sz a n cap xs) L L') (h1 : ∀ u ∈ xs, u.oneCell' = true) (hk : n * sz = len) : RdS L a len xs := by
  subst hk
  refine ⟨h1, fun h s => ?_⟩
  obtain ⟨q1, q2, q3, q4⟩ := own_ok.1 (p.ok s)
  refine ⟨q1, ?_⟩
  rcases q4 with ⟨_, rfl⟩ | ⟨g, cur, rfl, hg, _, ht⟩
  · left; have : n = 0 := by omega
    simp [this]
  · refine .inr ⟨g, 0, cur, _, _, rfl, hg, fun j u hu => ?_⟩
    have hj : j < n * sz := by have := (List.getElem?_eq_some_iff.1 hu).1; omega
    rw [← ht, List.getElem?_take, if_pos hj] at hu
    simpa using hu
theorem RdS.ownAt {L L' : List Assn} {e sz n cap o len g : Nat} {xs news : List Value} (p : Pick (Cx.own e sz (some ⟨g, 0, none⟩) n cap xs) L L') (h1 : ∀ u ∈ xs, u.oneCell' = true) (hn : o + len ≤ n * sz) (hc : (xs.drop o).take len = news) : RdS L (some ⟨g, o, none⟩) len news := by
  refine ⟨fun u hu => h1 u ?_, fun h s => ?_⟩
  · rw [← hc] at hu; exact List.mem_of_mem_drop (List.mem_of_mem_take hu)
  obtain ⟨q1, q2, q3, q4⟩ := own_ok.1 (p.ok s)
  rcases q4 with ⟨hh, _⟩ | ⟨g', cur, e', hg, _, ht⟩
  · cases hh
  · simp only [Option.some.injEq, Addr.mk.injEq, and_true, true_and] at e'
    subst e'
    refine ⟨by rw [← hc]; simp; omega, .inr ⟨g, o, cur, _, _, rfl, hg, fun j u hu => ?_⟩⟩
    have hj : j < len := by have := (List.getElem?_eq_some_iff.1 hu).1; rw [← hc] at this; simp at this; omega
    rw [← hc, List.getElem?_take, if_pos hj, List.getElem?_drop, ← ht, List.getElem?_take, if_pos (by omega)] at hu
    simpa using hu
theorem RdS.exact {L L' : List Assn} {x : PH} {b : Option Addr} {len : Nat} {news : List Value} (p : Pick (exact x) L L') (h1 : ∀ u ∈ news, u.oneCell' = true) (hn : news.length = len)
    (hc : len = 0 ∨ ∃ g off cs t fr, b = some ⟨g, off, none⟩ ∧ x g = some (.cells cs t fr) ∧ ∀ j u, news[j]? = some u → cs[off + j]? = some u) : RdS L b len news :=
  ⟨h1, fun h s => ⟨hn, hc.imp id fun ⟨g, off, cs, t, fr, e1, e2, e3⟩ => ⟨g, off, cs, t, fr, e1, (p.ok s) _ _ e2, e3⟩⟩⟩

theorem CellAt.own {L L' : List Assn} {e sz n cap g o : Nat} {xs : List Value} {v : Value} (p : Pick (Cx.own e sz (some ⟨g, 0, none⟩) n cap xs) L L') (hv : xs[o]? = some v) : CellAt L g o v := fun h s => by
  obtain ⟨q1, q2, q3, q4⟩ := own_ok.1 (p.ok s)
  rcases q4 with ⟨hh, _⟩ | ⟨g', cur, e', hg, _, ht⟩
  · cases hh
  · simp only [Option.some.injEq, Addr.mk.injEq, and_true, true_and] at e'
    subst e'
    have hj : o < n * sz := by have := (List.getElem?_eq_some_iff.1 hv).1; omega
    rw [← ht, List.getElem?_take, if_pos hj] at hv
    exact ⟨cur, _, _, hg, by simpa using hv⟩
theorem CellsAt.own {L L' : List Assn} {e sz n cap g o : Nat} {xs vs : List Value} (p : Pick (Cx.own e sz (some ⟨g, 0, none⟩) n cap xs) L L') (hv : (xs.drop o).take vs.length = vs) : CellsAt L g o vs := fun h s => by
  obtain ⟨q1, q2, q3, q4⟩ := own_ok.1 (p.ok s)
  rcases q4 with ⟨hh, _⟩ | ⟨g', cur, e', hg, _, ht⟩
  · cases hh
  · simp only [Option.some.injEq, Addr.mk.injEq, and_true, true_and] at e'
    subst e'
    refine ⟨cur, _, _, hg, fun j v hj => ?_⟩
    have hl : j < vs.length := (List.getElem?_eq_some_iff.1 hj).1
    have hj' := hj
    rw [← hv, List.getElem?_take, if_pos hl, List.getElem?_drop] at hj'
    have hx : o + j < n * sz := by have := (List.getElem?_eq_some_iff.1 hj').1; omega
    rw [← ht, List.getElem?_take, if_pos hx] at hj'
    simpa using hj'
theorem CellsAt.of {L : List Assn} {b o : Nat} {vs : List Value} {len : Nat} (r : RdS L (some ⟨b, o, none⟩) len vs) (h0 : 0 < len) : CellsAt L b o vs := fun h s => by
  obtain ⟨_, q⟩ := r.2 h s
  rcases q with q | ⟨g, off, cs, t, fr, e, hg, hc⟩
  · omega
  · simp only [Option.some.injEq, Addr.mk.injEq, and_true] at e
    obtain ⟨rfl, rfl⟩ := e
    exact ⟨cs, t, fr, hg, hc⟩
theorem CellAt.of {L : List Assn} {b o i : Nat} {vs : List Value} {len : Nat} {v : Value} (r : RdS L (some ⟨b, o, none⟩) len vs) (hv : vs[i]? = some v) : CellAt L b (o + i) v := fun h s => by
  obtain ⟨hl, q⟩ := r.2 h s
  rcases q with q | ⟨g, off, cs, t, fr, e, hg, hc⟩
  · have := (List.getElem?_eq_some_iff.1 hv).1; omega
  · simp only [Option.some.injEq, Addr.mk.injEq, and_true] at e
    obtain ⟨rfl, rfl⟩ := e
    exact ⟨cs, t, fr, hg, hc i v hv⟩

section
variable {P : Program} {ops : Array Oper} {Q : Exit → Act → World → Prop} {n : Nat} {e0 : World} {env : Env} {L : List Assn} {rest : List Oper}
variable {dst : Option Tmp} {ty : TypeId} {pos : String} {aft : Array Edge} {g : Option (Nat × Bool)} {op : Op}

theorem run_append_sep {t e sz bytes : Nat} {z : Value} (E : P.underlying t = some (.slice e)) [I : InfA P e sz bytes z] {w : World} {L M : List Assn} {a b : Option Addr} {k cap m c : Nat} {xs news : List Value} (hs : Sep L w.ph)
    (p : Pick (own e sz a k cap xs) L M) (hr : RdS L b (m * sz) news) (hb : (k + m) * bytes ≤ 140737488355328) (hbc : b = none → m = 0 ∧ c = 0) :
    ∃ a' cap' w', (Builtin.append_ #[t, t] ty #[.slice a k cap, .slice b m c]).run P w = .ok (.slice a' (k + m) cap') w' ∧ Sep (own e sz a' (k + m) cap' (xs ++ news) :: M) w'.ph ∧ Env0 w w' := by
  obtain ⟨i, hi, hz, hsz, hby⟩ := info_parts I.inf
  have hown := own_row (p.ok hs)
  obtain ⟨h1, hrd⟩ := hr
  obtain ⟨hl, hcell⟩ := hrd _ hs
  have hbp := I.bpos
  have h63 : k + m ≤ maxLen := by
    have : k + m ≤ (k + m) * bytes := Nat.le_mul_of_pos_right _ hbp
    simp only [maxLen]; omega
  cases b with
  | none =>
    obtain ⟨rfl, rfl⟩ := hbc rfl
    have hnil : news = [] := by apply List.eq_nil_of_length_eq_zero; simpa using hl
    subst hnil
    refine ⟨a, cap, w, ?_, ?_, Env0.refl w⟩
    · rw [run_append_owned_none (P := P) w 0 t ty e i sz E hi (.slice a k cap) k xs hown]; rfl
    · simpa using p.sep hs
  | some ad =>
    have hnews : ∀ j u, news[j]? = some u → w.cell? (ad.add j) = some u := fun j u hu => by
      rcases hcell with h0 | ⟨q, off, cs, t', fr, e', hq, hc⟩
      · have := (List.getElem?_eq_some_iff.1 hu).1; omega
      · simp only [Option.some.injEq] at e'
        subst e'
        rw [addr_add]; exact cell_ph hq (hc j u hu)
    obtain ⟨v', w', hrun, hown', hgr, _, hat⟩ := run_append_own_at (P := P) w 0 t ty e i z sz bytes E hi hz hsz hby I.zs I.pos _ k xs hown ad m c news hl hnews h1 h63 hb (Nat.zero_le _)
    obtain ⟨a', cap', rfl, ha', hok⟩ := own_of_row hown'
    refine ⟨a', cap', w', hrun, ?_, ⟨hgr.os, hgr.tape, hgr.output⟩⟩
    refine Sep.replace p hs fun S hS => ⟨fun b => (match a' with | some ad => ad.block == b | none => false), hok _ (fun q hq => by subst hq; simp [PH.only]), fun b o hbo => ?_⟩
    simp only [PH.less] at hbo ⊢
    split at hbo
    · cases hbo
    rename_i hSb
    have hlt : b < w.heap.size := by
      rcases Nat.lt_or_ge b w.heap.size with h | h
      · exact h
      · simp [World.ph, h] at hbo
    have hrow : some b ≠ (Value.slice a k cap).ownBlock := fun hh => by
      obtain ⟨_, _, _, q4⟩ := own_ok.1 hS
      rcases q4 with ⟨rfl, _⟩ | ⟨q, cur, rfl, hq, _⟩
      · simp [Value.ownBlock] at hh
      · simp [Value.ownBlock] at hh
        subst hh
        simp [PH.only, hSb] at hq
    have hne : (match a' with | some ad => ad.block == b | none => false) = false := by
      cases a' with
      | none => rfl
      | some q =>
        simp only [beq_eq_false_iff_ne]
        rintro rfl
        rcases hat with hat | hat
        · exact hrow (by rw [← hat]; rfl)
        · simp [Value.ownBlock] at hat; omega
    rw [if_neg (by rw [hne]; simp)]
    have := hgr.block b hlt hrow
    simp only [World.ph] at hbo ⊢
    rw [this]; exact hbo

theorem CX.append {t e sz bytes : Nat} {z : Value} [E : ElemA P t e sz] [I : InfA P e sz bytes z] {x y : Operand} {a b : Option Addr} {k cap m c : Nat} {xs news : List Value} {M : List Assn} (hg : gd ops n env g = some true)
    (hx : ev n env x = some (.slice a k cap)) (hy : ev n env y = some (.slice b m c)) (p : Pick (own e sz a k cap xs) L M) (hr : RdS L b (m * sz) news) (hb : (k + m) * bytes ≤ 140737488355328) (hbc : b = none → m = 0 ∧ c = 0)
    (h : ∀ a' cap', CX P ops Q n e0 (putE env dst (.slice a' (k + m) cap')) (own e sz a' (k + m) cap' (xs ++ news) :: M) rest) :
    CX P ops Q n e0 env L (⟨dst, .call ⟨.builtin .append, #[x, y], #[t, t]⟩, ty, pos, aft, g⟩ :: rest) := by
  refine CX.step hg fun w0 w hf hs he K hK => ?_
  obtain ⟨a', cap', w', hrun, hs', he'⟩ := run_append_sep (P := P) (ty := ty) E.under hs p hr hb hbc
  have hr2 : (execOp w0.eval ⟨dst, .call ⟨.builtin .append, #[x, y], #[t, t]⟩, ty, pos, aft, g⟩).run P w = .ok (.value (.slice a' (k + m) cap')) w' := by
    simp [execOp, resolve, invoke, builtin, hf.eval hx, hf.eval hy, hrun]
  unfold Oper.wp
  rw [hr2]
  exact hK _ _ (h a' cap' _ _ (hf.put dst _) hs' (he.trans he'))

theorem CX.makeSl {t e sz bytes : Nat} {z : Value} [E : ElemA P t e sz] [I : InfA P e sz bytes z] {x y : Operand} {k k' : IntKind} {i : Int} {l : Nat} (hg : gd ops n env g = some true)
    (hx : ev n env x = some (.int k i)) (hy : ev n env y = some (.int k' i)) (hi : i = (l : Int)) (hb : bytes * l ≤ 281474976710656)
    (h : ∀ b, CX P ops Q n e0 (putE env dst (.slice (some ⟨b, 0, none⟩) l l)) (own e sz (some ⟨b, 0, none⟩) l l (madeCells z.cells (l * sz)).toList :: L) rest) :
    CX P ops Q n e0 env L (⟨dst, .makeSlice t x y, ty, pos, aft, g⟩ :: rest) := by
  subst hi
  refine CX.step hg fun w0 w hf hs he K hK => ?_
  obtain ⟨i, hi, hz, hsz, hby⟩ := info_parts I.inf
  have hbp := I.bpos
  have h63 : l ≤ maxLen := by
    have : l ≤ bytes * l := Nat.le_mul_of_pos_left _ hbp
    simp only [maxLen]; omega
  have hl2 : ((l : Nat) : Int).toNat = l := by simp
  have hrun := run_make (P := P) w t e i z E.under hi hz k k' (l : Int) (l : Int) (by omega) (by omega) (by rw [hby, ← Int.natCast_mul]; omega) (by simp only [maxLen] at h63; omega)
  rw [hl2] at hrun
  have hr2 : (execOp w0.eval ⟨dst, .makeSlice t x y, ty, pos, aft, g⟩).run P w = .ok (.value (.slice (some ⟨w.heap.size, 0, none⟩) l l)) (w.alloc (.cells (madeCells z.cells (l * i.size)) e)) := by
    simp only [execOp, hf.eval hx, hf.eval hy, Sem.run_bind, hrun, Result.andThen_ok, Sem.run_pure]
  unfold Oper.wp
  rw [hr2]
  refine hK _ _ (h w.heap.size _ _ (hf.put dst _) ?_ (he.trans ⟨rfl, rfl, rfl⟩))
  rw [hsz, ph_alloc]
  refine hs.push (ph_size w) fun q hq => own_ok.2 ⟨?_, Nat.le_refl _, h63, .inr ⟨_, _, rfl, hq, ?_, ?_⟩⟩
  · simp [madeCells]
  · simp [madeCells]
  · rw [List.take_of_length_le]; simp [madeCells]

theorem CX.indexOwn {t e sz : Nat} [E : ElemA P t e sz] {x y : Operand} {a : Option Addr} {len cap j : Nat} {k : IntKind} {i : Int} {xs : List Value} {M : List Assn} (hg : gd ops n env g = some true) (hx : ev n env x = some (.slice a len cap))
    (hy : ev n env y = some (.int k i)) (hi : i = (j : Int)) (p : Pick (own e sz a len cap xs) L M) (hl : j < len)
    (h : ∀ b, a = some ⟨b, 0, none⟩ → CX P ops Q n e0 (putE env dst (.pointer (some ⟨b, j * sz, none⟩))) L rest) : CX P ops Q n e0 env L (⟨dst, .indexAddr t x y, ty, pos, aft, g⟩ :: rest) := by
  intro w0 w hf hs he
  obtain ⟨q1, q2, q3, q4⟩ := own_ok.1 (p.ok hs)
  rcases q4 with ⟨_, rfl⟩ | ⟨b, cur, e', _⟩
  · omega
  · subst e'
    refine CX.ps (PS.indexAddr hg hx hy hi hl) ?_ w0 w hf hs he
    have := h b rfl
    rw [Nat.zero_add]; exact this

/-- A store into a slice's own array. -/
theorem CX.storeOwn {t sz : Nat} [Z : SzT P t sz] {x y : Operand} {b o e s k cap : Nat} {xs : List Value} {v : Value} {M : List Assn} (hg : gd ops n env g = some true) (hx : ev n env x = some (.pointer (some ⟨b, o, none⟩)))
    (hy : ev n env y = some v) (hv : v.cells.size = sz) (ho : ∀ u ∈ v.cells.toList, u.oneCell' = true) (p : Pick (own e s (some ⟨b, 0, none⟩) k cap xs) L M) (hl : o + sz ≤ k * s)
    (h : CX P ops Q n e0 (putE env dst undef) (own e s (some ⟨b, 0, none⟩) k cap (setL xs o v.cells.toList) :: M) rest) : CX P ops Q n e0 env L (⟨dst, .store t x y, ty, pos, aft, g⟩ :: rest) := by
  refine CX.step hg fun a w hf hs he K hK => ?_
  obtain ⟨q1, q2, q3, q4⟩ := own_ok.1 (p.ok hs)
  rcases q4 with ⟨hh, _⟩ | ⟨b', cur, e', hgc, hsz, ht⟩
  · cases hh
  simp only [Option.some.injEq, Addr.mk.injEq, and_true, true_and] at e'
  subst e'
  have hle : k * s ≤ cap * s := Nat.mul_le_mul_right _ q2
  obtain ⟨w', hr, hph, he'⟩ := run_storeCells_ph (P := P) o v.cells.toList 0 cur.toList w (by simpa using hgc) (by simp [hv]; omega) (.inr (Nat.le_refl _)) ho
  have hrun : (execOp a.eval ⟨dst, .store t x y, ty, pos, aft, g⟩).run P w = .ok .skip w' := by
    simp [execOp, hf.eval hx, hf.eval hy, Instr.storeAt, Instr.sureAddr, storeVar, Z.size w, hv, hr]
  unfold Oper.wp
  rw [hrun]
  refine hK _ _ (h _ _ (hf.put dst undef) ?_ (he.trans he'))
  rw [hph]
  refine Sep.upd (.head _) (fun q hq => ?_) (fun q hq hok => ?_) (p.sep hs)
  · obtain ⟨_, _, _, r4⟩ := own_ok.1 hq
    rcases r4 with ⟨hh, _⟩ | ⟨b', c', e', hc, _⟩
    · cases hh
    · simp only [Option.some.injEq, Addr.mk.injEq, and_true, true_and] at e'
      subst e'; simp [hc]
  · refine own_ok.2 ⟨?_, q2, q3, .inr ⟨b, _, rfl, by simp [PH.put]; rfl, ?_, ?_⟩⟩
    · rw [length_setL _ _ _ (by simp [hv]; omega)]; exact q1
    · simp; rw [length_setL _ _ _ (by simp [hv]; omega)]; simpa using hsz
    · rw [← ht]
      simp only [setL, List.take_append, List.length_take, Array.length_toList, hv]
      have h1 : min o cur.size = o := by omega
      have h2 : min o (min (k * s) cur.size) = o := by omega
      simp only [List.take_take, h1, Nat.zero_add]
      have h3 : min (k * s) o = o := by omega
      have h4 : min o (k * s) = o := by omega
      rw [h3, h4, List.take_of_length_le (l := v.cells.toList) (by simp [hv]; omega)]
      congr 2
      rw [List.drop_take]
      simp [hv]
      congr 1
      omega
end
end Go.Cx
