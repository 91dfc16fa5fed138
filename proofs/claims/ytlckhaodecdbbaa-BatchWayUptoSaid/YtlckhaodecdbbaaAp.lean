/- A table behind changes (batch.Apply), in the program. -/
import Derived.Test.YtlckhaodecdbbaaMg
set_option linter.unusedVariables false
set_option linter.unusedSimpArgs false
namespace Go.Cx
theorem mrg_fact {α β : Type} (ka : α → Blk) (kb : β → Blk) : ∀ (i : Nat) (t : List α) (j : Nat) (l : List β), ∀ p ∈ mrg ka kb i t j l,
    (∀ n x, p.1 = some (n, x) → ∃ m, n = i + m ∧ t[m]? = some x) ∧ (∀ n y, p.2 = some (n, y) → ∃ m, n = j + m ∧ l[m]? = some y) ∧ ¬ (p.1 = none ∧ p.2 = none) := by
  have up : ∀ {γ : Type} {i n : Nat} {x z : γ} {s : List γ}, (∃ m, n = i + 1 + m ∧ s[m]? = some x) → ∃ m, n = i + m ∧ (z :: s)[m]? = some x := fun ⟨m, h1, h2⟩ => ⟨m + 1, by omega, by simpa using h2⟩
  intro i t j l
  induction i, t, j, l using mrg.induct (ka := ka) (kb := kb) with
  | case1 => intro p hp; rw [mrg] at hp; cases hp
  | case2 i j x t ih =>
    intro p hp
    rw [mrg] at hp
    rcases List.mem_cons.1 hp with rfl | hp
    · exact ⟨fun n y h => by cases h; exact ⟨0, rfl, rfl⟩, fun n y h => by simp at h, by simp⟩
    · obtain ⟨h1, h2, h3⟩ := ih p hp
      exact ⟨fun n y h => up (h1 n y h), h2, h3⟩
  | case3 i j y l ih =>
    intro p hp
    rw [mrg] at hp
    rcases List.mem_cons.1 hp with rfl | hp
    · exact ⟨fun n y h => by simp at h, fun n y h => by cases h; exact ⟨0, rfl, rfl⟩, by simp⟩
    · obtain ⟨h1, h2, h3⟩ := ih p hp
      exact ⟨h1, fun n y h => up (h2 n y h), h3⟩
  | case4 i x t j y l hk ih =>
    intro p hp
    rw [mrg, if_pos hk] at hp
    rcases List.mem_cons.1 hp with rfl | hp
    · exact ⟨fun n y h => by cases h; exact ⟨0, rfl, rfl⟩, fun n y h => by simp at h, by simp⟩
    · obtain ⟨h1, h2, h3⟩ := ih p hp
      exact ⟨fun n y h => up (h1 n y h), h2, h3⟩
  | case5 i x t j y l hk he ih =>
    intro p hp
    rw [mrg, if_neg hk, if_pos he] at hp
    rcases List.mem_cons.1 hp with rfl | hp
    · exact ⟨fun n y h => by cases h; exact ⟨0, rfl, rfl⟩, fun n y h => by cases h; exact ⟨0, rfl, rfl⟩, by simp⟩
    · obtain ⟨h1, h2, h3⟩ := ih p hp
      exact ⟨fun n y h => up (h1 n y h), fun n y h => up (h2 n y h), h3⟩
  | case6 i x t j y l hk he ih =>
    intro p hp
    rw [mrg, if_neg hk, if_neg he] at hp
    rcases List.mem_cons.1 hp with rfl | hp
    · exact ⟨fun n y h => by simp at h, fun n y h => by cases h; exact ⟨0, rfl, rfl⟩, by simp⟩
    · obtain ⟨h1, h2, h3⟩ := ih p hp
      exact ⟨h1, fun n y h => up (h2 n y h), h3⟩
/-- What Apply lays for what is handed out. -/
def outA : Option (Nat × RwV) × Option (Nat × ChV) → Tab
  | (_, some (_, y)) => if y.gone then [] else [(y.key, y.s.b)]
  | (some (_, x), none) => [x.m]
  | (none, none) => []
theorem applyM_nil (t : Tab) : applyM t [] = t := by cases t <;> rw [applyM]
theorem out_apply : ∀ (i : Nat) (t : List RwV) (j : Nat) (l : List ChV), ((mrg rwKey chKey i t j l).map outA).flatten = applyM (t.map RwV.m) (l.map ChV.m) := by
  intro i t j l
  induction i, t, j, l using mrg.induct (ka := rwKey) (kb := chKey) with
  | case1 => rw [mrg]; simp [applyM]
  | case2 i j x t ih =>
    rw [mrg, List.map_cons, List.flatten_cons, ih]
    simp only [List.map_nil, applyM_nil, List.map_cons]; rfl
  | case3 i j y l ih =>
    rw [mrg, List.map_cons, List.flatten_cons, ih]
    simp only [List.map_nil, List.map_cons]
    rw [applyM]
    simp only [outA, ChV.m]
    by_cases hg : y.gone = true <;> simp [hg]
  | case4 i x t j y l hk ih =>
    rw [mrg, if_pos hk, List.map_cons, List.flatten_cons, ih]
    simp only [List.map_cons]
    rw [applyM, if_pos (show klt x.m.1 y.m.key = true from hk)]; rfl
  | case5 i x t j y l hk he ih =>
    rw [mrg, if_neg hk, if_pos he, List.map_cons, List.flatten_cons, ih]
    simp only [List.map_cons]
    rw [applyM, if_neg (show ¬ klt x.m.1 y.m.key = true from hk), if_pos (show x.m.1 = y.m.key from he)]
    simp only [outA, ChV.m]
    by_cases hg : y.gone = true <;> simp [hg]
  | case6 i x t j y l hk he ih =>
    rw [mrg, if_neg hk, if_neg he, List.map_cons, List.flatten_cons, ih]
    simp only [List.map_cons]
    rw [applyM, if_neg (show ¬ klt x.m.1 y.m.key = true from hk), if_neg (show ¬ x.m.1 = y.m.key from he)]
    simp only [outA, ChV.m]
    by_cases hg : y.gone = true <;> simp [hg]
theorem mrg_len {α β : Type} (ka : α → Blk) (kb : β → Blk) : ∀ (i : Nat) (t : List α) (j : Nat) (l : List β), (mrg ka kb i t j l).length ≤ t.length + l.length := by
  intro i t j l
  induction i, t, j, l using mrg.induct (ka := ka) (kb := kb) with
  | case1 => rw [mrg]; simp
  | case2 i j x t ih => rw [mrg]; simp at ih ⊢; omega
  | case3 i j y l ih => rw [mrg]; simp at ih ⊢; omega
  | case4 i x t j y l hk ih => rw [mrg, if_pos hk]; simp at ih ⊢; omega
  | case5 i x t j y l hk he ih => rw [mrg, if_neg hk, if_pos he]; simp at ih ⊢; omega
  | case6 i x t j y l hk he ih => rw [mrg, if_neg hk, if_neg he]; simp at ih ⊢; omega
theorem valR_snoc {e c : Nat} {a : Option Addr} {b k : Blk} {l : List RwV} (h : PH) (s : (valR l).ok h) (t : (own e 1 a b.length c (cb b)).ok h) : (valR (l ++ [⟨k, ⟨a, b, c⟩⟩])).ok h := valR_ok.2 fun r hr => by
  rcases List.mem_append.1 hr with hr | hr
  · exact valR_ok.1 s r hr
  · obtain rfl := List.mem_singleton.1 hr
    exact own_SlB t
end Go.Cx
namespace Go.Proofs.Ytlckhaodecdbbaa
open Go.Cx
attribute [local irreducible] Go.Cx.CX Go.Cx.CC Go.Cx.CQ Go.Cx.PS Go.Cx.Ctr Go.Cx.CH
set_option maxRecDepth 10000
theorem clone_c (s : SlB) (hl : s.b.length ≤ 1073741824) : Ctr Try.prog 126 [.slice s.a s.b.length s.c] [] (fun x => s.ok x) (fun v M => ∃ a c, v = .slice a s.b.length c ∧ M = [own 5 1 a s.b.length c (cb s.b)]) := by
  obtain ⟨a, b, c⟩ := s
  dsimp only at hl ⊢
  refine Ctr.intro Try.func126 rfl Try.ntmps126 rfl fun x w hp => ?_
  cases a with
  | none =>
    obtain ⟨h1, h2⟩ := hp.nil rfl
    dsimp only at h1 h2
    subst h1; subst h2
    repeat (first | refine CX.psA ?_ | refine CX.nil ?_ | refine CQ.thenN ?_ | refine CQ.thenR ?_ | refine CQ.thenX ?_ | refine CQ.blockN ?_ | refine CQ.blockR ?_ | refine CQ.blockX ?_ | refine CQ.blockYA ?_ | refine CC.seq ?_ | refine CC.block ?_ | refine CC.region ?_ | refine CC.skip ?_ | refine CC.ret ?_ | refine CC.exit ?_ | refine CC.condTA ?_ | refine CC.condFA ?_ | refine CC.condDTA ?_ | refine CC.condDFA ?_ | refine CX.storeA ?_ | refine CX.skipA ?_)
    refine CQ.ownNil 5 1 ?_
    (apply CQ.end1; (· rfl); (· exact .tmp rfl))
    · exact ⟨none, 0, rfl, rfl⟩
    · repeat (first | exact Sel.nil _ | (apply Sel.cons; (· repeat (first | exact .head _ | apply Pick.tail | apply Upd.tail))))
  | some ad =>
    repeat (first | refine CX.psA ?_ | refine CX.nil ?_ | refine CQ.thenN ?_ | refine CQ.thenR ?_ | refine CQ.thenX ?_ | refine CQ.blockN ?_ | refine CQ.blockR ?_ | refine CQ.blockX ?_ | refine CQ.blockYA ?_ | refine CC.seq ?_ | refine CC.block ?_ | refine CC.region ?_ | refine CC.skip ?_ | refine CC.ret ?_ | refine CC.exit ?_ | refine CC.condTA ?_ | refine CC.condFA ?_ | refine CC.condDTA ?_ | refine CC.condDFA ?_ | refine CX.storeA ?_ | refine CX.skipA ?_)
    refine CX.buildSl0 ?_
    intro q
    repeat (first | refine CX.psA ?_ | refine CX.nil ?_ | refine CQ.thenN ?_ | refine CQ.thenR ?_ | refine CQ.thenX ?_ | refine CQ.blockN ?_ | refine CQ.blockR ?_ | refine CQ.blockX ?_ | refine CQ.blockYA ?_ | refine CC.seq ?_ | refine CC.block ?_ | refine CC.region ?_ | refine CC.skip ?_ | refine CC.ret ?_ | refine CC.exit ?_ | refine CC.condTA ?_ | refine CC.condFA ?_ | refine CC.condDTA ?_ | refine CC.condDFA ?_ | refine CX.storeA ?_ | refine CX.skipA ?_)
    refine CX.append (m := b.length) (news := cb b) rfl rfl rfl (by repeat (first | exact .head _ | apply Pick.tail | apply Upd.tail)) (rdS_of (rdx_ex (by repeat (first | exact .head _ | apply Pick.tail | apply Upd.tail)) hp.r) rfl) (by omega) (fun h => by cases h) ?_
    intro a' c'
    rw [List.nil_append, Nat.zero_add]
    repeat (first | refine CX.psA ?_ | refine CX.nil ?_ | refine CQ.thenN ?_ | refine CQ.thenR ?_ | refine CQ.thenX ?_ | refine CQ.blockN ?_ | refine CQ.blockR ?_ | refine CQ.blockX ?_ | refine CQ.blockYA ?_ | refine CC.seq ?_ | refine CC.block ?_ | refine CC.region ?_ | refine CC.skip ?_ | refine CC.ret ?_ | refine CC.exit ?_ | refine CC.condTA ?_ | refine CC.condFA ?_ | refine CC.condDTA ?_ | refine CC.condDFA ?_ | refine CX.storeA ?_ | refine CX.skipA ?_)
    (apply CQ.end1; (· rfl); (· exact .tmp rfl))
    · exact ⟨a', c', rfl, rfl⟩
    · repeat (first | exact Sel.nil _ | (apply Sel.cons; (· repeat (first | exact .head _ | apply Pick.tail | apply Upd.tail))))
theorem mergC_c (t u : Value) (ht : t.cells = #[t]) (hu : u.cells = #[u]) : Ctr Try.prog 135 [t, u, .func (.func 124) #[] #[], .func (.func 136) #[] #[]] [] (fun _ => True)
    (fun v M => ∃ b1 b2 b3 b4, v = .func (.func 159) #[] #[.pointer (some ⟨b1, 0, none⟩), .pointer (some ⟨b2, 0, none⟩), .pointer (some ⟨b3, 0, none⟩), .pointer (some ⟨b4, 0, none⟩)] ∧
      M = [bk b1 99 [t], bk b2 92 [u], bk b3 162 [.func (.func 124) #[] #[]], bk b4 175 [.func (.func 136) #[] #[]]]) := by
  refine Ctr.intro Try.func135 rfl Try.ntmps135 rfl fun x w hp => ?_
  repeat (first | refine CX.psA ?_ | refine CX.nil ?_ | refine CQ.thenN ?_ | refine CQ.thenR ?_ | refine CQ.thenX ?_ | refine CQ.blockN ?_ | refine CQ.blockR ?_ | refine CQ.blockX ?_ | refine CQ.blockYA ?_ | refine CC.seq ?_ | refine CC.block ?_ | refine CC.region ?_ | refine CC.skip ?_ | refine CC.ret ?_ | refine CC.exit ?_ | refine CC.condTA ?_ | refine CC.condFA ?_ | refine CC.condDTA ?_ | refine CC.condDFA ?_ | refine CX.storeA ?_ | refine CX.skipA ?_)
  (apply CX.box; (· rfl); (· rfl); intro b1)
  (apply CX.box; (· rfl); (· rfl); intro b2)
  rw [ht, hu]
  (apply CX.box; (· rfl); (· rfl); intro b3)
  (apply CX.box; (· rfl); (· rfl); intro b4)
  repeat (first | refine CX.psA ?_ | refine CX.nil ?_ | refine CQ.thenN ?_ | refine CQ.thenR ?_ | refine CQ.thenX ?_ | refine CQ.blockN ?_ | refine CQ.blockR ?_ | refine CQ.blockX ?_ | refine CQ.blockYA ?_ | refine CC.seq ?_ | refine CC.block ?_ | refine CC.region ?_ | refine CC.skip ?_ | refine CC.ret ?_ | refine CC.exit ?_ | refine CC.condTA ?_ | refine CC.condFA ?_ | refine CC.condDTA ?_ | refine CC.condDFA ?_ | refine CX.storeA ?_ | refine CX.skipA ?_)
  (apply CQ.end1; (· rfl); (· exact .tmp rfl))
  · exact ⟨b1, b2, b3, b4, rfl, rfl⟩
  · repeat (first | exact Sel.nil _ | (apply Sel.cons; (· repeat (first | exact .head _ | apply Pick.tail | apply Upd.tail))))
def AppliedP (t : List RwV) (l : List ChV) (v : Value) (M : List Assn) : Prop :=
  (¬ (MayR (t.map RwV.m) ∧ MayC (l.map ChV.m)) → v = .tuple #[.slice none 0 0, .int .i64 2] ∧ M = []) ∧
  (MayR (t.map RwV.m) ∧ MayC (l.map ChV.m) → ∃ a c r, r.map RwV.m = applyM (t.map RwV.m) (l.map ChV.m) ∧ v = .tuple #[.slice a r.length c, .int .i64 0] ∧ M = [tabA a r] ∧ (a = none → r.length = 0 ∧ c = 0) ∧ r.length ≤ c ∧ r.length ≤ t.length + l.length)
theorem apply_c (t : List RwV) (l : List ChV) (ht : t.length ≤ 1073741824) (hl : l.length ≤ 1073741824) (a b : Option Addr) (ca cb' : Nat) (hca : t.length ≤ ca) (hcb : l.length ≤ cb') :
    Ctr Try.prog 69 [.slice a t.length ca, .slice b l.length cb'] [] (fun x => rwAt a t x ∧ chAt b l x) (AppliedP t l) := by
  unfold AppliedP
  refine Ctr.introM Try.func69 rfl Try.ntmps69 rfl fun x w hp => ?_
  obtain ⟨hpa, hpb⟩ := hp
  repeat (first | refine CX.psA ?_ | refine CX.nil ?_ | refine CQ.thenN ?_ | refine CQ.thenR ?_ | refine CQ.thenX ?_ | refine CQ.blockN ?_ | refine CQ.blockR ?_ | refine CQ.blockX ?_ | refine CQ.blockYA ?_ | refine CC.seq ?_ | refine CC.block ?_ | refine CC.region ?_ | refine CC.skip ?_ | refine CC.ret ?_ | refine CC.exit ?_ | refine CC.condTA ?_ | refine CC.condFA ?_ | refine CC.condDTA ?_ | refine CC.condDFA ?_ | refine CX.storeA ?_ | refine CX.skipA ?_)
  refine CX.callA (mayR_c t (by omega) a ca) ?_ (hpre := by exact rw_ex (by repeat (first | exact .head _ | apply Pick.tail | apply Upd.tail)) hpa)
  by_cases hmt : MayR (t.map RwV.m)
  rotate_left
  · rw [decide_eq_false hmt]
    rintro _ _ ⟨rfl, rfl⟩
    repeat (first | refine CX.psA ?_ | refine CX.nil ?_ | refine CQ.thenN ?_ | refine CQ.thenR ?_ | refine CQ.thenX ?_ | refine CQ.blockN ?_ | refine CQ.blockR ?_ | refine CQ.blockX ?_ | refine CQ.blockYA ?_ | refine CC.seq ?_ | refine CC.block ?_ | refine CC.region ?_ | refine CC.skip ?_ | refine CC.ret ?_ | refine CC.exit ?_ | refine CC.condTA ?_ | refine CC.condFA ?_ | refine CC.condDTA ?_ | refine CC.condDFA ?_ | refine CX.storeA ?_ | refine CX.skipA ?_)
    refine CQ.endM2 rfl (.tmp rfl) (.tmp rfl) ⟨fun _ => ⟨rfl, rfl⟩, fun h => absurd h.1 hmt⟩ (by repeat (first | exact Sel.nil _ | (apply Sel.cons; (· repeat (first | exact .head _ | apply Pick.tail | apply Upd.tail)))))
  rw [decide_eq_true hmt]
  rintro _ _ ⟨rfl, rfl⟩
  repeat (first | refine CX.psA ?_ | refine CX.nil ?_ | refine CQ.thenN ?_ | refine CQ.thenR ?_ | refine CQ.thenX ?_ | refine CQ.blockN ?_ | refine CQ.blockR ?_ | refine CQ.blockX ?_ | refine CQ.blockYA ?_ | refine CC.seq ?_ | refine CC.block ?_ | refine CC.region ?_ | refine CC.skip ?_ | refine CC.ret ?_ | refine CC.exit ?_ | refine CC.condTA ?_ | refine CC.condFA ?_ | refine CC.condDTA ?_ | refine CC.condDFA ?_ | refine CX.storeA ?_ | refine CX.skipA ?_)
  refine CX.callA (mayC_c l (by omega) b cb') ?_ (hpre := by exact ch_ex (by repeat (first | exact .head _ | apply Pick.tail | apply Upd.tail)) hpb)
  by_cases hml : MayC (l.map ChV.m)
  rotate_left
  · rw [decide_eq_false hml]
    rintro _ _ ⟨rfl, rfl⟩
    repeat (first | refine CX.psA ?_ | refine CX.nil ?_ | refine CQ.thenN ?_ | refine CQ.thenR ?_ | refine CQ.thenX ?_ | refine CQ.blockN ?_ | refine CQ.blockR ?_ | refine CQ.blockX ?_ | refine CQ.blockYA ?_ | refine CC.seq ?_ | refine CC.block ?_ | refine CC.region ?_ | refine CC.skip ?_ | refine CC.ret ?_ | refine CC.exit ?_ | refine CC.condTA ?_ | refine CC.condFA ?_ | refine CC.condDTA ?_ | refine CC.condDFA ?_ | refine CX.storeA ?_ | refine CX.skipA ?_)
    refine CQ.endM2 rfl (.tmp rfl) (.tmp rfl) ⟨fun _ => ⟨rfl, rfl⟩, fun h => absurd h.2 hml⟩ (by repeat (first | exact Sel.nil _ | (apply Sel.cons; (· repeat (first | exact .head _ | apply Pick.tail | apply Upd.tail)))))
  rw [decide_eq_true hml]
  rintro _ _ ⟨rfl, rfl⟩
  repeat (first | refine CX.psA ?_ | refine CX.nil ?_ | refine CQ.thenN ?_ | refine CQ.thenR ?_ | refine CQ.thenX ?_ | refine CQ.blockN ?_ | refine CQ.blockR ?_ | refine CQ.blockX ?_ | refine CQ.blockYA ?_ | refine CC.seq ?_ | refine CC.block ?_ | refine CC.region ?_ | refine CC.skip ?_ | refine CC.ret ?_ | refine CC.exit ?_ | refine CC.condTA ?_ | refine CC.condFA ?_ | refine CC.condDTA ?_ | refine CC.condDFA ?_ | refine CX.storeA ?_ | refine CX.skipA ?_)
  refine CX.allocZ [.slice none 0 0] ?_ (hv := rfl)
  intro b6
  repeat (first | refine CX.psA ?_ | refine CX.nil ?_ | refine CQ.thenN ?_ | refine CQ.thenR ?_ | refine CQ.thenX ?_ | refine CQ.blockN ?_ | refine CQ.blockR ?_ | refine CQ.blockX ?_ | refine CQ.blockYA ?_ | refine CC.seq ?_ | refine CC.block ?_ | refine CC.region ?_ | refine CC.skip ?_ | refine CC.ret ?_ | refine CC.exit ?_ | refine CC.condTA ?_ | refine CC.condFA ?_ | refine CC.condDTA ?_ | refine CC.condDFA ?_ | refine CX.storeA ?_ | refine CX.skipA ?_)
  refine CX.callA (mergC_c (.slice a t.length ca) (.slice b l.length cb') rfl rfl) ?_
  rintro _ _ ⟨b1, b2, b3, b4, rfl, rfl⟩
  repeat (first | refine CX.psA ?_ | refine CX.nil ?_ | refine CQ.thenN ?_ | refine CQ.thenR ?_ | refine CQ.thenX ?_ | refine CQ.blockN ?_ | refine CQ.blockR ?_ | refine CQ.blockX ?_ | refine CQ.blockYA ?_ | refine CC.seq ?_ | refine CC.block ?_ | refine CC.region ?_ | refine CC.skip ?_ | refine CC.ret ?_ | refine CC.exit ?_ | refine CC.condTA ?_ | refine CC.condFA ?_ | refine CC.condDTA ?_ | refine CC.condDFA ?_ | refine CX.storeA ?_ | refine CX.skipA ?_)
  refine CC.ownNil 105 2 ?_
  refine CC.give (valR []) (fun _ => valR_ok.2 fun _ h => by cases h) ?_
  have hLl := mrg_len rwKey chKey 0 t 0 l
  have hfact := mrg_fact rwKey chKey 0 t 0 l
  have hall := out_apply 0 t 0 l
  have It := itC_c t l ht hl a b ca cb' hca hcb b1 b2 b3 b4
  generalize mrg rwKey chKey 0 t 0 l = Lm at *
  refine CC.range It rfl (fun k M => ∃ a1 c1 r, M = [bk b6 99 [.slice a1 r.length c1], own 105 2 a1 r.length c1 (rows RwV.cells r), valR r] ∧ r.map RwV.m = ((Lm.take k).map outA).flatten ∧ r.length ≤ k)
    (M0 := [bk b6 99 [.slice none 0 0], own 105 2 none 0 0 [], valR []]) ⟨none, 0, [], rfl, rfl, Nat.le_refl _⟩ (by repeat (first | exact Sel.nil _ | (apply Sel.cons; (· repeat (first | exact .head _ | apply Pick.tail | apply Upd.tail))))) (fun y hy => ⟨rw_ex (by repeat (first | exact .head _ | apply Pick.tail | apply Upd.tail)) hpa y hy, ch_ex (by repeat (first | exact .head _ | apply Pick.tail | apply Upd.tail)) hpb y hy⟩) (fun v hv => by
      obtain ⟨p, _, rfl⟩ := List.mem_map.1 hv; rfl) ?_ ?_
  · rintro ly ⟨st, pd, rfn, rtm, rps, ras, rbd, rdf⟩ k v M y e1 hk ⟨a1, c1, r, rfl, hr, hrk⟩ hst hpd hy
    dsimp only at hst hpd
    subst hst; subst hpd
    rw [List.getElem?_map, Option.map_eq_some_iff] at hk
    obtain ⟨p, hk, rfl⟩ := hk
    have hkl : k < Lm.length := (List.getElem?_eq_some_iff.1 hk).1
    have hpL : p ∈ Lm := List.mem_of_getElem? hk
    obtain ⟨hf1, hf2, hf3⟩ := hfact p hpL
    have hout : ((Lm.take (k + 1)).map outA).flatten = ((Lm.take k).map outA).flatten ++ outA p := by
      rw [List.take_succ_eq_append_getElem hkl, (List.getElem?_eq_some_iff.1 hk).2]; simp
    have hya : rwAt a t y := rw_ex (show Pick (exact x) _ _ from by repeat (first | exact .head _ | apply Pick.tail | apply Upd.tail)) hpa y hy
    have hyb : chAt b l y := ch_ex (show Pick (exact x) _ _ from by repeat (first | exact .head _ | apply Pick.tail | apply Upd.tail)) hpb y hy
    clear hy
    obtain ⟨p1, p2⟩ := p
    cases p2 with
    | none =>
      cases p1 with
      | none => exact absurd ⟨rfl, rfl⟩ hf3
      | some q =>
        obtain ⟨n, z⟩ := q
        obtain ⟨m, rfl, hz⟩ := hf1 n z rfl
        obtain ⟨hm, rfl⟩ := List.getElem?_eq_some_iff.1 hz
        obtain ⟨ga, oa, rfl⟩ := rwAt_some hya (by omega)
        have hval : (t[m]).s.b.length ≤ 1073741824 := by
          have := (hmt.2 (t[m]).m (List.mem_map_of_mem (List.getElem_mem hm))).2.2
          have e : (t[m]).m.2.length = (t[m]).s.b.length := rfl
          omega
        have hzs := hya.2 t[m] (List.getElem_mem hm)
        simp only [encM, Option.bind_some, Option.bind_none, atP_some, Nat.zero_add, putEs]
        repeat (first | refine CX.psA ?_ | refine CX.nil ?_ | refine CQ.thenRN ?_ | refine CQ.blockN ?_ | refine CQ.blockX ?_ | refine CR.seq ?_ | refine CR.block ?_ | refine CR.region ?_ | refine CR.skip ?_ | refine CR.condT ?_ | refine CR.condF ?_ | refine CR.condDT ?_ | refine CR.condDF ?_ | refine CX.storeA ?_ | refine CX.skipA ?_)
        refine CQ.begin rfl (by repeat (first | exact .head _ | apply Pick.tail | apply Upd.tail)) ?_
        repeat (first | refine CX.psA ?_ | refine CX.nil ?_ | refine CQ.thenRN ?_ | refine CQ.blockN ?_ | refine CQ.blockX ?_ | refine CR.seq ?_ | refine CR.block ?_ | refine CR.region ?_ | refine CR.skip ?_ | refine CR.condT ?_ | refine CR.condF ?_ | refine CR.condDT ?_ | refine CR.condDF ?_ | refine CX.storeA ?_ | refine CX.skipA ?_)
        refine CR.draw [(0, 1), (1, 0), (2, 0), (3, 0), (4, 1), (5, 0), (6, 0), (7, 0), (8, 1), (9, 2), (10, 0), (11, 2), (12, 2), (13, 3)] mixed rfl (by kernel_rfl) (by kernel_rfl) [bk b6 99 [.slice a1 r.length c1], exact y] ?_
        repeat (first | refine CH.pureA ?_ | refine CH.readA ?_ | refine CH.skA ?_ | refine CH.skCA ?_ | refine CH.nil ?_)
        (apply CH.read; (· rfl); (· apply PS.load (v := sv (t[m]).key); (· rfl); (· rfl); (· exact hya.cell (by repeat (first | exact .head _ | apply Pick.tail | apply Upd.tail)) hm 0 rfl)); (· repeat (first | exact Sel.nil _ | (apply Sel.cons; (· repeat (first | exact .head _ | apply Pick.tail | apply Upd.tail))))))
        repeat (first | refine CH.pureA ?_ | refine CH.readA ?_ | refine CH.skA ?_ | refine CH.skCA ?_ | refine CH.nil ?_)
        (apply CH.read; (· rfl); (· apply PS.load (v := .slice (t[m]).s.a (t[m]).s.b.length (t[m]).s.c); (· rfl); (· rfl); (· exact hya.cell (by repeat (first | exact .head _ | apply Pick.tail | apply Upd.tail)) hm 1 rfl)); (· repeat (first | exact Sel.nil _ | (apply Sel.cons; (· repeat (first | exact .head _ | apply Pick.tail | apply Upd.tail))))))
        refine CH.chain rfl fun K hK => ?_
        refine CX.callA (clone_c (t[m]).s hval) ?_ (hpre := by exact fun z hz => (hzs).mono (Pick.ok (show Pick (exact y) _ _ from by repeat (first | exact .head _ | apply Pick.tail | apply Upd.tail)) hz))
        rintro _ _ ⟨a2, c2, rfl, rfl⟩
        (refine CX.nil ?_; refine CQ.thenK ?_; apply hK; (· repeat (first | exact Sel.nil _ | (apply Sel.cons; (· repeat (first | exact .head _ | apply Pick.tail | apply Upd.tail))))); clear hK K)
        refine CH.pure rfl (PS.build (vs := [(0, sv (t[m]).key), (1, .slice a2 (t[m]).s.b.length c2)]) (out := [sv (t[m]).key, .slice a2 (t[m]).s.b.length c2]) rfl rfl rfl) ?_
        refine CH.chain rfl fun K hK => ?_
        refine CX.buildSl (parts := [(0, _)]) (vs := [(0, .agg #[sv (t[m]).key, .slice a2 (t[m]).s.b.length c2])]) (out := [sv (t[m]).key, .slice a2 (t[m]).s.b.length c2]) rfl rfl (by decide) (by simp [fillL, Value.cells, setL]) fun bq => ?_
        (refine CX.nil ?_; refine CQ.thenK ?_; apply hK; (· repeat (first | exact Sel.nil _ | (apply Sel.cons; (· repeat (first | exact .head _ | apply Pick.tail | apply Upd.tail))))); clear hK K)
        refine CH.chain rfl fun K hK => ?_
        refine CX.append (m := 1) (news := [sv (t[m]).key, .slice a2 (t[m]).s.b.length c2]) rfl rfl rfl (by repeat (first | exact .head _ | apply Pick.tail | apply Upd.tail)) (RdS.pick (b := bq) (o := 0) (by repeat (first | exact .head _ | apply Pick.tail | apply Upd.tail)) rfl (one_all rfl) rfl) (by omega) (fun h => by cases h) ?_
        intro a3 c3
        refine CX.merge (valR (r ++ [⟨(t[m]).key, ⟨a2, (t[m]).s.b, c2⟩⟩])) valR_snoc ?_
        (refine CX.nil ?_; refine CQ.thenK ?_; apply hK; (· repeat (first | exact Sel.nil _ | (apply Sel.cons; (· repeat (first | exact .head _ | apply Pick.tail | apply Upd.tail))))); clear hK K)
        refine CH.tail rfl rfl fun K hK => ?_
        refine CX.storeA ?_
        (refine CX.nil ?_; refine CQ.thenK ?_; apply hK; clear hK K)
        repeat (first | refine CH.pureA ?_ | refine CH.readA ?_ | refine CH.skA ?_ | refine CH.skCA ?_ | refine CH.nil ?_)
        repeat (first | refine CX.psA ?_ | refine CX.nil ?_ | refine CQ.thenRN ?_ | refine CQ.blockN ?_ | refine CQ.blockX ?_ | refine CR.seq ?_ | refine CR.block ?_ | refine CR.region ?_ | refine CR.skip ?_ | refine CR.condT ?_ | refine CR.condF ?_ | refine CR.condDT ?_ | refine CR.condDF ?_ | refine CX.storeA ?_ | refine CX.skipA ?_)
        refine CQ.endRound (by repeat (first | exact .head _ | apply Pick.tail | apply Upd.tail)) ⟨rfl, [bk b6 99 [.slice a3 (r.length + 1) c3], own 105 2 a3 (r.length + 1) c3 (rows RwV.cells r ++ [sv (t[m]).key, .slice a2 (t[m]).s.b.length c2]), valR (r ++ [⟨(t[m]).key, ⟨a2, (t[m]).s.b, c2⟩⟩])], rfl, a3, c3, r ++ [⟨(t[m]).key, ⟨a2, (t[m]).s.b, c2⟩⟩], by rw [List.length_append, rows_append]; rfl, by rw [hout, List.map_append, hr]; simp [outA, RwV.m], by simp only [List.length_append, List.length_singleton]; omega⟩ (by repeat (first | exact Sel.nil _ | (apply Sel.cons; (· repeat (first | exact .head _ | apply Pick.tail | apply Upd.tail)))))
    | some q =>
      obtain ⟨n, z⟩ := q
      obtain ⟨m, rfl, hz⟩ := hf2 n z rfl
      obtain ⟨hm, rfl⟩ := List.getElem?_eq_some_iff.1 hz
      obtain ⟨gb, ob', rfl⟩ := chAt_some hyb (by omega)
      have hval : (l[m]).s.b.length ≤ 1073741824 := by
        have := (hml.2 (l[m]).m (List.mem_map_of_mem (List.getElem_mem hm))).v
        have e : (l[m]).m.val.length = (l[m]).s.b.length := rfl
        omega
      have hzs := hyb.2 l[m] (List.getElem_mem hm)
      simp only [encM, Option.bind_some, atP_some, Nat.zero_add, putEs]
      generalize (p1.bind fun q => atP a (q.1 * 2)) = pp
      by_cases hg : (l[m]).gone = true
      · repeat (first | refine CX.psA ?_ | refine CX.nil ?_ | refine CQ.thenRN ?_ | refine CQ.blockN ?_ | refine CQ.blockX ?_ | refine CR.seq ?_ | refine CR.block ?_ | refine CR.region ?_ | refine CR.skip ?_ | refine CR.condT ?_ | refine CR.condF ?_ | refine CR.condDT ?_ | refine CR.condDF ?_ | refine CX.storeA ?_ | refine CX.skipA ?_)
        refine CQ.begin rfl (by repeat (first | exact .head _ | apply Pick.tail | apply Upd.tail)) ?_
        repeat (first | refine CX.psA ?_ | refine CX.nil ?_ | refine CQ.thenRN ?_ | refine CQ.blockN ?_ | refine CQ.blockX ?_ | refine CR.seq ?_ | refine CR.block ?_ | refine CR.region ?_ | refine CR.skip ?_ | refine CR.condT ?_ | refine CR.condF ?_ | refine CR.condDT ?_ | refine CR.condDF ?_ | refine CX.storeA ?_ | refine CX.skipA ?_)
        refine CX.loadA (.bool true) (hyb.cell (v := .bool true) (by repeat (first | exact .head _ | apply Pick.tail | apply Upd.tail)) hm 2 (by rw [← hg]; rfl)) ?_
        repeat (first | refine CX.psA ?_ | refine CX.nil ?_ | refine CQ.thenRN ?_ | refine CQ.blockN ?_ | refine CQ.blockX ?_ | refine CR.seq ?_ | refine CR.block ?_ | refine CR.region ?_ | refine CR.skip ?_ | refine CR.condT ?_ | refine CR.condF ?_ | refine CR.condDT ?_ | refine CR.condDF ?_ | refine CX.storeA ?_ | refine CX.skipA ?_)
        refine CQ.endRound (by repeat (first | exact .head _ | apply Pick.tail | apply Upd.tail)) ⟨rfl, [bk b6 99 [.slice a1 r.length c1], own 105 2 a1 r.length c1 (rows RwV.cells r), valR r], rfl, a1, c1, r, rfl, by rw [hout, hr]; simp [outA, hg], by omega⟩ (by repeat (first | exact Sel.nil _ | (apply Sel.cons; (· repeat (first | exact .head _ | apply Pick.tail | apply Upd.tail)))))
      · have hg' : (l[m]).gone = false := by simpa using hg
        repeat (first | refine CX.psA ?_ | refine CX.nil ?_ | refine CQ.thenRN ?_ | refine CQ.blockN ?_ | refine CQ.blockX ?_ | refine CR.seq ?_ | refine CR.block ?_ | refine CR.region ?_ | refine CR.skip ?_ | refine CR.condT ?_ | refine CR.condF ?_ | refine CR.condDT ?_ | refine CR.condDF ?_ | refine CX.storeA ?_ | refine CX.skipA ?_)
        refine CQ.begin rfl (by repeat (first | exact .head _ | apply Pick.tail | apply Upd.tail)) ?_
        repeat (first | refine CX.psA ?_ | refine CX.nil ?_ | refine CQ.thenRN ?_ | refine CQ.blockN ?_ | refine CQ.blockX ?_ | refine CR.seq ?_ | refine CR.block ?_ | refine CR.region ?_ | refine CR.skip ?_ | refine CR.condT ?_ | refine CR.condF ?_ | refine CR.condDT ?_ | refine CR.condDF ?_ | refine CX.storeA ?_ | refine CX.skipA ?_)
        refine CX.loadA (.bool false) (hyb.cell (v := .bool false) (by repeat (first | exact .head _ | apply Pick.tail | apply Upd.tail)) hm 2 (by rw [← hg']; rfl)) ?_
        repeat (first | refine CX.psA ?_ | refine CX.nil ?_ | refine CQ.thenRN ?_ | refine CQ.blockN ?_ | refine CQ.blockX ?_ | refine CR.seq ?_ | refine CR.block ?_ | refine CR.region ?_ | refine CR.skip ?_ | refine CR.condT ?_ | refine CR.condF ?_ | refine CR.condDT ?_ | refine CR.condDF ?_ | refine CX.storeA ?_ | refine CX.skipA ?_)
        refine CR.draw [(0, 1), (1, 0), (2, 0), (3, 0), (4, 1), (5, 0), (6, 0), (7, 0), (8, 1), (9, 2), (10, 0), (11, 2), (12, 2), (13, 3)] mixed rfl (by kernel_rfl) (by kernel_rfl) [bk b6 99 [.slice a1 r.length c1], exact y] ?_
        repeat (first | refine CH.pureA ?_ | refine CH.readA ?_ | refine CH.skA ?_ | refine CH.skCA ?_ | refine CH.nil ?_)
        (apply CH.read; (· rfl); (· apply PS.load (v := sv (l[m]).key); (· rfl); (· rfl); (· exact hyb.cell (by repeat (first | exact .head _ | apply Pick.tail | apply Upd.tail)) hm 0 rfl)); (· repeat (first | exact Sel.nil _ | (apply Sel.cons; (· repeat (first | exact .head _ | apply Pick.tail | apply Upd.tail))))))
        repeat (first | refine CH.pureA ?_ | refine CH.readA ?_ | refine CH.skA ?_ | refine CH.skCA ?_ | refine CH.nil ?_)
        (apply CH.read; (· rfl); (· apply PS.load (v := .slice (l[m]).s.a (l[m]).s.b.length (l[m]).s.c); (· rfl); (· rfl); (· exact hyb.cell (by repeat (first | exact .head _ | apply Pick.tail | apply Upd.tail)) hm 1 rfl)); (· repeat (first | exact Sel.nil _ | (apply Sel.cons; (· repeat (first | exact .head _ | apply Pick.tail | apply Upd.tail))))))
        refine CH.chain rfl fun K hK => ?_
        refine CX.callA (clone_c (l[m]).s hval) ?_ (hpre := by exact fun z hz => (hzs).mono (Pick.ok (show Pick (exact y) _ _ from by repeat (first | exact .head _ | apply Pick.tail | apply Upd.tail)) hz))
        rintro _ _ ⟨a2, c2, rfl, rfl⟩
        (refine CX.nil ?_; refine CQ.thenK ?_; apply hK; (· repeat (first | exact Sel.nil _ | (apply Sel.cons; (· repeat (first | exact .head _ | apply Pick.tail | apply Upd.tail))))); clear hK K)
        refine CH.pure rfl (PS.build (vs := [(0, sv (l[m]).key), (1, .slice a2 (l[m]).s.b.length c2)]) (out := [sv (l[m]).key, .slice a2 (l[m]).s.b.length c2]) rfl rfl rfl) ?_
        refine CH.chain rfl fun K hK => ?_
        refine CX.buildSl (parts := [(0, _)]) (vs := [(0, .agg #[sv (l[m]).key, .slice a2 (l[m]).s.b.length c2])]) (out := [sv (l[m]).key, .slice a2 (l[m]).s.b.length c2]) rfl rfl (by decide) (by simp [fillL, Value.cells, setL]) fun bq => ?_
        (refine CX.nil ?_; refine CQ.thenK ?_; apply hK; (· repeat (first | exact Sel.nil _ | (apply Sel.cons; (· repeat (first | exact .head _ | apply Pick.tail | apply Upd.tail))))); clear hK K)
        refine CH.chain rfl fun K hK => ?_
        refine CX.append (m := 1) (news := [sv (l[m]).key, .slice a2 (l[m]).s.b.length c2]) rfl rfl rfl (by repeat (first | exact .head _ | apply Pick.tail | apply Upd.tail)) (RdS.pick (b := bq) (o := 0) (by repeat (first | exact .head _ | apply Pick.tail | apply Upd.tail)) rfl (one_all rfl) rfl) (by omega) (fun h => by cases h) ?_
        intro a3 c3
        refine CX.merge (valR (r ++ [⟨(l[m]).key, ⟨a2, (l[m]).s.b, c2⟩⟩])) valR_snoc ?_
        (refine CX.nil ?_; refine CQ.thenK ?_; apply hK; (· repeat (first | exact Sel.nil _ | (apply Sel.cons; (· repeat (first | exact .head _ | apply Pick.tail | apply Upd.tail))))); clear hK K)
        refine CH.tail rfl rfl fun K hK => ?_
        refine CX.storeA ?_
        (refine CX.nil ?_; refine CQ.thenK ?_; apply hK; clear hK K)
        repeat (first | refine CH.pureA ?_ | refine CH.readA ?_ | refine CH.skA ?_ | refine CH.skCA ?_ | refine CH.nil ?_)
        repeat (first | refine CX.psA ?_ | refine CX.nil ?_ | refine CQ.thenRN ?_ | refine CQ.blockN ?_ | refine CQ.blockX ?_ | refine CR.seq ?_ | refine CR.block ?_ | refine CR.region ?_ | refine CR.skip ?_ | refine CR.condT ?_ | refine CR.condF ?_ | refine CR.condDT ?_ | refine CR.condDF ?_ | refine CX.storeA ?_ | refine CX.skipA ?_)
        refine CQ.endRound (by repeat (first | exact .head _ | apply Pick.tail | apply Upd.tail)) ⟨rfl, [bk b6 99 [.slice a3 (r.length + 1) c3], own 105 2 a3 (r.length + 1) c3 (rows RwV.cells r ++ [sv (l[m]).key, .slice a2 (l[m]).s.b.length c2]), valR (r ++ [⟨(l[m]).key, ⟨a2, (l[m]).s.b, c2⟩⟩])], rfl, a3, c3, r ++ [⟨(l[m]).key, ⟨a2, (l[m]).s.b, c2⟩⟩], by rw [List.length_append, rows_append]; rfl, by rw [hout, List.map_append, hr]; simp [outA, RwV.m, hg'], by simp only [List.length_append, List.length_singleton]; omega⟩ (by repeat (first | exact Sel.nil _ | (apply Sel.cons; (· repeat (first | exact .head _ | apply Pick.tail | apply Upd.tail)))))
  · rintro D M ⟨a1, c1, r, rfl, hr, hrk⟩
    rw [List.length_map] at hr hrk
    rw [List.take_length, hall] at hr
    repeat (first | refine CXD.ps ?_ | refine CXD.nil ?_ | refine QD.thenN ?_ | refine QD.thenR ?_ | refine QD.blockN ?_ | refine CD.seq ?_ | refine CD.region ?_ | refine CD.ret ?_)
    refine CQ.fact (own_none (e := 105) (sz := 2) (by repeat (first | exact .head _ | apply Pick.tail | apply Upd.tail))) ?_
    rintro ⟨hn1, hn2, hn3⟩
    refine CQ.merge (tabA a1 r) own_tab ?_
    refine CQ.endD2 rfl (by repeat (first | exact .head _ | apply Pick.tail | apply Upd.tail)) (.tmp rfl) (.tmp rfl) ⟨fun h => absurd ⟨hmt, hml⟩ h, fun _ => ⟨a1, c1, r, hr, rfl, rfl, hn1, hn2, by omega⟩⟩ (by repeat (first | exact Sel.nil _ | (apply Sel.cons; (· repeat (first | exact .head _ | apply Pick.tail | apply Upd.tail)))))
end Go.Proofs.Ytlckhaodecdbbaa
