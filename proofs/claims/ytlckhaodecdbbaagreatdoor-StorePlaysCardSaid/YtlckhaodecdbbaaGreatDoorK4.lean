/- Part K4: Ap, L8, Bw, Bf, L8w, He, Sd, Jm, Jp, Jq, Jr, Sp, Sq, Ct, Jc, Sg. -/
import Derived.Test.YtlckhaodecdbbaaGreatDoorK3
import Derived.Test.YtlckhaodecdbbaaGreatDoorK2
import Derived.Test.YtlckhaodecdbbaaGreatDoorK1
set_option linter.unusedVariables false
set_option linter.unusedSimpArgs false
/-! A table behind changes (batch.Apply), in the program. -/
namespace Go.Cx
theorem mrg_fact {α β : Type} (ka : α → Blk) (kb : β → Blk) : ∀ (i : Nat) (t : List α) (j : Nat) (l : List β), ∀ p ∈ mrg ka kb i t j l,
    (∀ n x, p.1 = some (n, x) → ∃ m, n = i + m ∧ t[m]? = some x) ∧ (∀ n y, p.2 = some (n, y) → ∃ m, n = j + m ∧ l[m]? = some y) ∧ ¬ (p.1 = none ∧ p.2 = none) := by
  have up : ∀ {γ : Type} {i n : Nat} {x z : γ} {s : List γ}, (∃ m, n = i + 1 + m ∧ s[m]? = some x) → ∃ m, n = i + m ∧ (z :: s)[m]? = some x := fun ⟨m, h1, h2⟩ => ⟨m + 1, by omega, by simpa using h2⟩
  intro i t j l
  induction i, t, j, l using mrg.induct (ka := ka) (kb := kb) with
  | case1 => intro p hp; rw [mrg] at hp; cases hp
  | case2 i j x t ih =>
    intro p hp
    rw [mrg] at hp
    rcases List.mem_cons.1 hp with rfl | hp
    · exact ⟨fun n y h => by cases h; exact ⟨0, rfl, rfl⟩, fun n y h => by simp at h, by simp⟩
    · obtain ⟨h1, h2, h3⟩ := ih p hp
      exact ⟨fun n y h => up (h1 n y h), h2, h3⟩
  | case3 i j y l ih =>
    intro p hp
    rw [mrg] at hp
    rcases List.mem_cons.1 hp with rfl | hp
    · exact ⟨fun n y h => by simp at h, fun n y h => by cases h; exact ⟨0, rfl, rfl⟩, by simp⟩
    · obtain ⟨h1, h2, h3⟩ := ih p hp
      exact ⟨h1, fun n y h => up (h2 n y h), h3⟩
  | case4 i x t j y l hk ih =>
    intro p hp
    rw [mrg, if_pos hk] at hp
    rcases List.mem_cons.1 hp with rfl | hp
    · exact ⟨fun n y h => by cases h; exact ⟨0, rfl, rfl⟩, fun n y h => by simp at h, by simp⟩
    · obtain ⟨h1, h2, h3⟩ := ih p hp
      exact ⟨fun n y h => up (h1 n y h), h2, h3⟩
  | case5 i x t j y l hk he ih =>
    intro p hp
    rw [mrg, if_neg hk, if_pos he] at hp
    rcases List.mem_cons.1 hp with rfl | hp
    · exact ⟨fun n y h => by cases h; exact ⟨0, rfl, rfl⟩, fun n y h => by cases h; exact ⟨0, rfl, rfl⟩, by simp⟩
    · obtain ⟨h1, h2, h3⟩ := ih p hp
      exact ⟨fun n y h => up (h1 n y h), fun n y h => up (h2 n y h), h3⟩
  | case6 i x t j y l hk he ih =>
    intro p hp
    rw [mrg, if_neg hk, if_neg he] at hp
    rcases List.mem_cons.1 hp with rfl | hp
    · exact ⟨fun n y h => by simp at h, fun n y h => by cases h; exact ⟨0, rfl, rfl⟩, by simp⟩
    · obtain ⟨h1, h2, h3⟩ := ih p hp
      exact ⟨h1, fun n y h => up (h2 n y h), h3⟩
/-- What Apply lays for what is handed out. -/
def outA : Option (Nat × RwV) × Option (Nat × ChV) → Tab
  | (_, some (_, y)) => if y.gone then [] else [(y.key, y.s.b)]
  | (some (_, x), none) => [x.m]
  | (none, none) => []
theorem applyM_nil (t : Tab) : applyM t [] = t := by cases t <;> rw [applyM]
theorem out_apply : ∀ (i : Nat) (t : List RwV) (j : Nat) (l : List ChV), ((mrg rwKey chKey i t j l).map outA).flatten = applyM (t.map RwV.m) (l.map ChV.m) := by
  intro i t j l
  induction i, t, j, l using mrg.induct (ka := rwKey) (kb := chKey) with
  | case1 => rw [mrg]; simp [applyM]
  | case2 i j x t ih =>
    rw [mrg, List.map_cons, List.flatten_cons, ih]
    simp only [List.map_nil, applyM_nil, List.map_cons]; rfl
  | case3 i j y l ih =>
    rw [mrg, List.map_cons, List.flatten_cons, ih]
    simp only [List.map_nil, List.map_cons]
    rw [applyM]
    simp only [outA, ChV.m]
    by_cases hg : y.gone = true <;> simp [hg]
  | case4 i x t j y l hk ih =>
    rw [mrg, if_pos hk, List.map_cons, List.flatten_cons, ih]
    simp only [List.map_cons]
    rw [applyM, if_pos (show klt x.m.1 y.m.key = true from hk)]; rfl
  | case5 i x t j y l hk he ih =>
    rw [mrg, if_neg hk, if_pos he, List.map_cons, List.flatten_cons, ih]
    simp only [List.map_cons]
    rw [applyM, if_neg (show ¬ klt x.m.1 y.m.key = true from hk), if_pos (show x.m.1 = y.m.key from he)]
    simp only [outA, ChV.m]
    by_cases hg : y.gone = true <;> simp [hg]
  | case6 i x t j y l hk he ih =>
    rw [mrg, if_neg hk, if_neg he, List.map_cons, List.flatten_cons, ih]
    simp only [List.map_cons]
    rw [applyM, if_neg (show ¬ klt x.m.1 y.m.key = true from hk), if_neg (show ¬ x.m.1 = y.m.key from he)]
    simp only [outA, ChV.m]
    by_cases hg : y.gone = true <;> simp [hg]
theorem mrg_len {α β : Type} (ka : α → Blk) (kb : β → Blk) : ∀ (i : Nat) (t : List α) (j : Nat) (l : List β), (mrg ka kb i t j l).length ≤ t.length + l.length := by
  intro i t j l
  induction i, t, j, l using mrg.induct (ka := ka) (kb := kb) with
  | case1 => rw [mrg]; simp
  | case2 i j x t ih => rw [mrg]; simp at ih ⊢; omega
  | case3 i j y l ih => rw [mrg]; simp at ih ⊢; omega
  | case4 i x t j y l hk ih => rw [mrg, if_pos hk]; simp at ih ⊢; omega
  | case5 i x t j y l hk he ih => rw [mrg, if_neg hk, if_pos he]; simp at ih ⊢; omega
  | case6 i x t j y l hk he ih => rw [mrg, if_neg hk, if_neg he]; simp at ih ⊢; omega
theorem valR_snoc {e c : Nat} {a : Option Addr} {b k : Blk} {l : List RwV} (h : PH) (s : (valR l).ok h) (t : (own e 1 a b.length c (cb b)).ok h) : (valR (l ++ [⟨k, ⟨a, b, c⟩⟩])).ok h := valR_ok.2 fun r hr => by
  rcases List.mem_append.1 hr with hr | hr
  · exact valR_ok.1 s r hr
  · obtain rfl := List.mem_singleton.1 hr
    exact own_SlB t
end Go.Cx
namespace Go.Proofs.YtlckhaodecdbbaaGreatDoor
open Go.Cx
attribute [local irreducible] Go.Cx.CX Go.Cx.CC Go.Cx.CQ Go.Cx.PS Go.Cx.Ctr Go.Cx.CH
set_option maxRecDepth 10000
theorem clone_c (s : SlB) (hl : s.b.length ≤ 1073741824) : Ctr Tryz.prog 84 [.slice s.a s.b.length s.c] [] (fun x => s.ok x) (fun v M => ∃ a c, v = .slice a s.b.length c ∧ M = [own 5 1 a s.b.length c (cb s.b)]) := by
  obtain ⟨a, b, c⟩ := s
  dsimp only at hl ⊢
  refine Ctr.intro Tryz.func84 rfl Tryz.ntmps84 rfl fun x w hp => ?_
  cases a with
  | none =>
    obtain ⟨h1, h2⟩ := hp.nil rfl
    dsimp only at h1 h2
    subst h1; subst h2
    refine wk ?_
    refine CQ.ownNil 5 1 ?_
    (apply CQ.end1; (· rfl); (· exact .tmp rfl))
    · exact ⟨none, 0, rfl, rfl⟩
    · exact selA
  | some ad =>
    refine wk ?_
    refine CX.buildSl0 ?_
    intro q
    refine wk ?_
    refine CX.append (m := b.length) (news := cb b) rfl rfl rfl (by first | exact pickA | exact updA) (rdS_of (rdx_ex (by first | exact pickA | exact updA) hp.r) rfl) (by omega) (fun h => by cases h) ?_
    intro a' c'
    rw [List.nil_append, Nat.zero_add]
    refine wk ?_
    (apply CQ.end1; (· rfl); (· exact .tmp rfl))
    · exact ⟨a', c', rfl, rfl⟩
    · exact selA
theorem mergC_c (t u : Value) (ht : t.cells = #[t]) (hu : u.cells = #[u]) : Ctr Tryz.prog 81 [t, u, .func (.func 82) #[] #[], .func (.func 83) #[] #[]] [] (fun _ => True)
    (fun v M => ∃ b1 b2 b3 b4, v = .func (.func 125) #[] #[.pointer (some ⟨b1, 0, none⟩), .pointer (some ⟨b2, 0, none⟩), .pointer (some ⟨b3, 0, none⟩), .pointer (some ⟨b4, 0, none⟩)] ∧
      M = [bk b1 32 [t], bk b2 34 [u], bk b3 134 [.func (.func 82) #[] #[]], bk b4 127 [.func (.func 83) #[] #[]]]) := by
  refine Ctr.intro Tryz.func81 rfl Tryz.ntmps81 rfl fun x w hp => ?_
  refine wk ?_
  (apply CX.box; (· rfl); (· rfl); intro b1)
  (apply CX.box; (· rfl); (· rfl); intro b2)
  rw [ht, hu]
  (apply CX.box; (· rfl); (· rfl); intro b3)
  (apply CX.box; (· rfl); (· rfl); intro b4)
  refine wk ?_
  (apply CQ.end1; (· rfl); (· exact .tmp rfl))
  · exact ⟨b1, b2, b3, b4, rfl, rfl⟩
  · exact selA
def AppliedP (t : List RwV) (l : List ChV) (v : Value) (M : List Assn) : Prop :=
  (¬ (MayR (t.map RwV.m) ∧ MayC (l.map ChV.m)) → v = .tuple #[.slice none 0 0, .int .i64 2] ∧ M = []) ∧
  (MayR (t.map RwV.m) ∧ MayC (l.map ChV.m) → ∃ a c r, r.map RwV.m = applyM (t.map RwV.m) (l.map ChV.m) ∧ v = .tuple #[.slice a r.length c, .int .i64 0] ∧ M = [tabA a r] ∧ (a = none → r.length = 0 ∧ c = 0) ∧ r.length ≤ c ∧ r.length ≤ t.length + l.length)
theorem apply_c (t : List RwV) (l : List ChV) (ht : t.length ≤ 1073741824) (hl : l.length ≤ 1073741824) (a b : Option Addr) (ca cb' : Nat) (hca : t.length ≤ ca) (hcb : l.length ≤ cb') :
    Ctr Tryz.prog 46 [.slice a t.length ca, .slice b l.length cb'] [] (fun x => rwAt a t x ∧ chAt b l x) (AppliedP t l) := by
  unfold AppliedP
  refine Ctr.introM Tryz.func46 rfl Tryz.ntmps46 rfl fun x w hp => ?_
  obtain ⟨hpa, hpb⟩ := hp
  refine wk ?_
  refine CX.callA (mayR_c t (by omega) a ca) ?_ (hpre := by exact rw_ex (by first | exact pickA | exact updA) hpa)
  by_cases hmt : MayR (t.map RwV.m)
  rotate_left
  · rw [decide_eq_false hmt]
    rintro _ _ ⟨rfl, rfl⟩
    refine wk ?_
    refine CQ.endM2 rfl (.tmp rfl) (.tmp rfl) ⟨fun _ => ⟨rfl, rfl⟩, fun h => absurd h.1 hmt⟩ (by exact selA)
  rw [decide_eq_true hmt]
  rintro _ _ ⟨rfl, rfl⟩
  refine wk ?_
  refine CX.callA (mayC_c l (by omega) b cb') ?_ (hpre := by exact ch_ex (by first | exact pickA | exact updA) hpb)
  by_cases hml : MayC (l.map ChV.m)
  rotate_left
  · rw [decide_eq_false hml]
    rintro _ _ ⟨rfl, rfl⟩
    refine wk ?_
    refine CQ.endM2 rfl (.tmp rfl) (.tmp rfl) ⟨fun _ => ⟨rfl, rfl⟩, fun h => absurd h.2 hml⟩ (by exact selA)
  rw [decide_eq_true hml]
  rintro _ _ ⟨rfl, rfl⟩
  refine wk ?_
  refine CX.allocZ [.slice none 0 0] ?_ (hv := rfl)
  intro b6
  refine wk ?_
  refine CX.callA (mergC_c (.slice a t.length ca) (.slice b l.length cb') rfl rfl) ?_
  rintro _ _ ⟨b1, b2, b3, b4, rfl, rfl⟩
  refine wk ?_
  refine CC.ownNil 71 2 ?_
  refine CC.give (valR []) (fun _ => valR_ok.2 fun _ h => by cases h) ?_
  have hLl := mrg_len rwKey chKey 0 t 0 l
  have hfact := mrg_fact rwKey chKey 0 t 0 l
  have hall := out_apply 0 t 0 l
  have It := itC_c t l ht hl a b ca cb' hca hcb b1 b2 b3 b4
  generalize mrg rwKey chKey 0 t 0 l = Lm at *
  refine CC.range It rfl (fun k M => ∃ a1 c1 r, M = [bk b6 32 [.slice a1 r.length c1], own 71 2 a1 r.length c1 (rows RwV.cells r), valR r] ∧ r.map RwV.m = ((Lm.take k).map outA).flatten ∧ r.length ≤ k)
    (M0 := [bk b6 32 [.slice none 0 0], own 71 2 none 0 0 [], valR []]) ⟨none, 0, [], rfl, rfl, Nat.le_refl _⟩ (by exact selA) (fun y hy => ⟨rw_ex (by first | exact pickA | exact updA) hpa y hy, ch_ex (by first | exact pickA | exact updA) hpb y hy⟩) (fun v hv => by
      obtain ⟨p, _, rfl⟩ := List.mem_map.1 hv; rfl) ?_ ?_
  · rintro ly ⟨st, pd, rfn, rtm, rps, ras, rbd, rdf⟩ k v M y e1 hk ⟨a1, c1, r, rfl, hr, hrk⟩ hst hpd hy
    dsimp only at hst hpd
    subst hst; subst hpd
    rw [List.getElem?_map, Option.map_eq_some_iff] at hk
    obtain ⟨p, hk, rfl⟩ := hk
    have hkl : k < Lm.length := (List.getElem?_eq_some_iff.1 hk).1
    have hpL : p ∈ Lm := List.mem_of_getElem? hk
    obtain ⟨hf1, hf2, hf3⟩ := hfact p hpL
    have hout : ((Lm.take (k + 1)).map outA).flatten = ((Lm.take k).map outA).flatten ++ outA p := by
      rw [List.take_succ_eq_append_getElem hkl, (List.getElem?_eq_some_iff.1 hk).2]; simp
    have hya : rwAt a t y := rw_ex (show Pick (exact x) _ _ from by first | exact pickA | exact updA) hpa y hy
    have hyb : chAt b l y := ch_ex (show Pick (exact x) _ _ from by first | exact pickA | exact updA) hpb y hy
    clear hy
    obtain ⟨p1, p2⟩ := p
    cases p2 with
    | none =>
      cases p1 with
      | none => exact absurd ⟨rfl, rfl⟩ hf3
      | some q =>
        obtain ⟨n, z⟩ := q
        obtain ⟨m, rfl, hz⟩ := hf1 n z rfl
        obtain ⟨hm, rfl⟩ := List.getElem?_eq_some_iff.1 hz
        obtain ⟨ga, oa, rfl⟩ := rwAt_some hya (by omega)
        have hval : (t[m]).s.b.length ≤ 1073741824 := by
          have := (hmt.2 (t[m]).m (List.mem_map_of_mem (List.getElem_mem hm))).2.2
          have e : (t[m]).m.2.length = (t[m]).s.b.length := rfl
          omega
        have hzs := hya.2 t[m] (List.getElem_mem hm)
        simp only [encM, Option.bind_some, Option.bind_none, atP_some, Nat.zero_add, putEs]
        refine wqk ?_
        refine CQ.begin rfl (by first | exact pickA | exact updA) ?_
        refine wqk ?_
        refine CR.draw [(0, 1), (1, 0), (2, 0), (3, 0), (4, 1), (5, 0), (6, 0), (7, 0), (8, 1), (9, 2), (10, 0), (11, 2), (12, 2), (13, 3)] mixed rfl (by kernel_rfl) (by kernel_rfl) [bk b6 32 [.slice a1 r.length c1], exact y] ?_
        refine hwk ?_
        (apply CH.read; (· rfl); (· apply PS.load (v := sv (t[m]).key); (· rfl); (· rfl); (· exact hya.cell (by first | exact pickA | exact updA) hm 0 rfl)); (· exact selA))
        refine hwk ?_
        (apply CH.read; (· rfl); (· apply PS.load (v := .slice (t[m]).s.a (t[m]).s.b.length (t[m]).s.c); (· rfl); (· rfl); (· exact hya.cell (by first | exact pickA | exact updA) hm 1 rfl)); (· exact selA))
        refine CH.chain rfl fun K hK => ?_
        refine CX.callA (clone_c (t[m]).s hval) ?_ (hpre := by exact fun z hz => (hzs).mono (Pick.ok (show Pick (exact y) _ _ from by first | exact pickA | exact updA) hz))
        rintro _ _ ⟨a2, c2, rfl, rfl⟩
        (refine CX.nil ?_; refine CQ.thenK ?_; apply hK; (· exact selA); clear hK K)
        refine CH.pure rfl (PS.build (vs := [(0, sv (t[m]).key), (1, .slice a2 (t[m]).s.b.length c2)]) (out := [sv (t[m]).key, .slice a2 (t[m]).s.b.length c2]) rfl rfl rfl) ?_
        refine CH.chain rfl fun K hK => ?_
        refine CX.buildSl (parts := [(0, _)]) (vs := [(0, .agg #[sv (t[m]).key, .slice a2 (t[m]).s.b.length c2])]) (out := [sv (t[m]).key, .slice a2 (t[m]).s.b.length c2]) rfl rfl (by decide) (by simp [fillL, Value.cells, setL]) fun bq => ?_
        (refine CX.nil ?_; refine CQ.thenK ?_; apply hK; (· exact selA); clear hK K)
        refine CH.chain rfl fun K hK => ?_
        refine CX.append (m := 1) (news := [sv (t[m]).key, .slice a2 (t[m]).s.b.length c2]) rfl rfl rfl (by first | exact pickA | exact updA) (RdS.pick (b := bq) (o := 0) (by first | exact pickA | exact updA) rfl (one_all rfl) rfl) (by omega) (fun h => by cases h) ?_
        intro a3 c3
        refine CX.merge (valR (r ++ [⟨(t[m]).key, ⟨a2, (t[m]).s.b, c2⟩⟩])) valR_snoc ?_
        (refine CX.nil ?_; refine CQ.thenK ?_; apply hK; (· exact selA); clear hK K)
        refine CH.tail rfl rfl fun K hK => ?_
        refine CX.storeA ?_
        (refine CX.nil ?_; refine CQ.thenK ?_; apply hK; clear hK K)
        refine hwk ?_
        refine wqk ?_
        refine CQ.endRound (by first | exact pickA | exact updA) ⟨rfl, [bk b6 32 [.slice a3 (r.length + 1) c3], own 71 2 a3 (r.length + 1) c3 (rows RwV.cells r ++ [sv (t[m]).key, .slice a2 (t[m]).s.b.length c2]), valR (r ++ [⟨(t[m]).key, ⟨a2, (t[m]).s.b, c2⟩⟩])], rfl, a3, c3, r ++ [⟨(t[m]).key, ⟨a2, (t[m]).s.b, c2⟩⟩], by rw [List.length_append, rows_append]; rfl, by rw [hout, List.map_append, hr]; simp [outA, RwV.m], by simp only [List.length_append, List.length_singleton]; omega⟩ (by exact selA)
    | some q =>
      obtain ⟨n, z⟩ := q
      obtain ⟨m, rfl, hz⟩ := hf2 n z rfl
      obtain ⟨hm, rfl⟩ := List.getElem?_eq_some_iff.1 hz
      obtain ⟨gb, ob', rfl⟩ := chAt_some hyb (by omega)
      have hval : (l[m]).s.b.length ≤ 1073741824 := by
        have := (hml.2 (l[m]).m (List.mem_map_of_mem (List.getElem_mem hm))).v
        have e : (l[m]).m.val.length = (l[m]).s.b.length := rfl
        omega
      have hzs := hyb.2 l[m] (List.getElem_mem hm)
      simp only [encM, Option.bind_some, atP_some, Nat.zero_add, putEs]
      generalize (p1.bind fun q => atP a (q.1 * 2)) = pp
      by_cases hg : (l[m]).gone = true
      · refine wqk ?_
        refine CQ.begin rfl (by first | exact pickA | exact updA) ?_
        refine wqk ?_
        refine CX.loadA (.bool true) (hyb.cell (v := .bool true) (by first | exact pickA | exact updA) hm 2 (by rw [← hg]; rfl)) ?_
        refine wqk ?_
        refine CQ.endRound (by first | exact pickA | exact updA) ⟨rfl, [bk b6 32 [.slice a1 r.length c1], own 71 2 a1 r.length c1 (rows RwV.cells r), valR r], rfl, a1, c1, r, rfl, by rw [hout, hr]; simp [outA, hg], by omega⟩ (by exact selA)
      · have hg' : (l[m]).gone = false := by simpa using hg
        refine wqk ?_
        refine CQ.begin rfl (by first | exact pickA | exact updA) ?_
        refine wqk ?_
        refine CX.loadA (.bool false) (hyb.cell (v := .bool false) (by first | exact pickA | exact updA) hm 2 (by rw [← hg']; rfl)) ?_
        refine wqk ?_
        refine CR.draw [(0, 1), (1, 0), (2, 0), (3, 0), (4, 1), (5, 0), (6, 0), (7, 0), (8, 1), (9, 2), (10, 0), (11, 2), (12, 2), (13, 3)] mixed rfl (by kernel_rfl) (by kernel_rfl) [bk b6 32 [.slice a1 r.length c1], exact y] ?_
        refine hwk ?_
        (apply CH.read; (· rfl); (· apply PS.load (v := sv (l[m]).key); (· rfl); (· rfl); (· exact hyb.cell (by first | exact pickA | exact updA) hm 0 rfl)); (· exact selA))
        refine hwk ?_
        (apply CH.read; (· rfl); (· apply PS.load (v := .slice (l[m]).s.a (l[m]).s.b.length (l[m]).s.c); (· rfl); (· rfl); (· exact hyb.cell (by first | exact pickA | exact updA) hm 1 rfl)); (· exact selA))
        refine CH.chain rfl fun K hK => ?_
        refine CX.callA (clone_c (l[m]).s hval) ?_ (hpre := by exact fun z hz => (hzs).mono (Pick.ok (show Pick (exact y) _ _ from by first | exact pickA | exact updA) hz))
        rintro _ _ ⟨a2, c2, rfl, rfl⟩
        (refine CX.nil ?_; refine CQ.thenK ?_; apply hK; (· exact selA); clear hK K)
        refine CH.pure rfl (PS.build (vs := [(0, sv (l[m]).key), (1, .slice a2 (l[m]).s.b.length c2)]) (out := [sv (l[m]).key, .slice a2 (l[m]).s.b.length c2]) rfl rfl rfl) ?_
        refine CH.chain rfl fun K hK => ?_
        refine CX.buildSl (parts := [(0, _)]) (vs := [(0, .agg #[sv (l[m]).key, .slice a2 (l[m]).s.b.length c2])]) (out := [sv (l[m]).key, .slice a2 (l[m]).s.b.length c2]) rfl rfl (by decide) (by simp [fillL, Value.cells, setL]) fun bq => ?_
        (refine CX.nil ?_; refine CQ.thenK ?_; apply hK; (· exact selA); clear hK K)
        refine CH.chain rfl fun K hK => ?_
        refine CX.append (m := 1) (news := [sv (l[m]).key, .slice a2 (l[m]).s.b.length c2]) rfl rfl rfl (by first | exact pickA | exact updA) (RdS.pick (b := bq) (o := 0) (by first | exact pickA | exact updA) rfl (one_all rfl) rfl) (by omega) (fun h => by cases h) ?_
        intro a3 c3
        refine CX.merge (valR (r ++ [⟨(l[m]).key, ⟨a2, (l[m]).s.b, c2⟩⟩])) valR_snoc ?_
        (refine CX.nil ?_; refine CQ.thenK ?_; apply hK; (· exact selA); clear hK K)
        refine CH.tail rfl rfl fun K hK => ?_
        refine CX.storeA ?_
        (refine CX.nil ?_; refine CQ.thenK ?_; apply hK; clear hK K)
        refine hwk ?_
        refine wqk ?_
        refine CQ.endRound (by first | exact pickA | exact updA) ⟨rfl, [bk b6 32 [.slice a3 (r.length + 1) c3], own 71 2 a3 (r.length + 1) c3 (rows RwV.cells r ++ [sv (l[m]).key, .slice a2 (l[m]).s.b.length c2]), valR (r ++ [⟨(l[m]).key, ⟨a2, (l[m]).s.b, c2⟩⟩])], rfl, a3, c3, r ++ [⟨(l[m]).key, ⟨a2, (l[m]).s.b, c2⟩⟩], by rw [List.length_append, rows_append]; rfl, by rw [hout, List.map_append, hr]; simp [outA, RwV.m, hg'], by simp only [List.length_append, List.length_singleton]; omega⟩ (by exact selA)
  · rintro D M ⟨a1, c1, r, rfl, hr, hrk⟩
    rw [List.length_map] at hr hrk
    rw [List.take_length, hall] at hr
    refine wdk ?_
    refine CQ.fact (own_none (e := 71) (sz := 2) (by first | exact pickA | exact updA)) ?_
    rintro ⟨hn1, hn2, hn3⟩
    refine CQ.merge (tabA a1 r) own_tab ?_
    refine CQ.endD2 rfl (by first | exact pickA | exact updA) (.tmp rfl) (.tmp rfl) ⟨fun h => absurd ⟨hmt, hml⟩ h, fun _ => ⟨a1, c1, r, hr, rfl, rfl, hn1, hn2, by omega⟩⟩ (by exact selA)
end Go.Proofs.YtlckhaodecdbbaaGreatDoor
/-! The statements' own doings of layer 8 (lives), in the program. -/
namespace Go.Cx
theorem bk_rdx8 {b t o len : Nat} {cs vs : List Value} {L M : List Assn} (p : Pick (bk b t cs) L M) (hc : (cs.drop o).take vs.length = vs) : ∀ y, Sep L y → rdx (some ⟨b, o, none⟩) len vs y := fun y hy => by
  obtain ⟨cs', t', fr, e, h⟩ := CellsAt.pick p hc y hy
  exact .inr ⟨b, o, _, _, _, rfl, e, h⟩
theorem slb_bk {b t : Nat} {B : Blk} {L M : List Assn} (p : Pick (bk b t (cb B)) L M) (h : B.length ≤ 1000000) : ∀ y, Sep L y → SlB.ok y ⟨some ⟨b, 0, none⟩, B, B.length⟩ := fun y hy =>
  ⟨(fun h => by cases h), Nat.le_refl _, by show B.length ≤ maxLen; unfold maxLen; omega, bk_rdx8 p (by rw [List.drop_zero, List.take_length]) y hy⟩
theorem slb_nil (y : PH) : SlB.ok y ⟨none, [], 0⟩ := ⟨fun _ => ⟨rfl, rfl⟩, Nat.le_refl _, Nat.zero_le _, .inl rfl⟩
theorem ch_bk {b t : Nat} {l : List ChV} {L M : List Assn} (p : Pick (bk b t (rows ChV.cells l)) L M) (h : ∀ y, Sep L y → ∀ r ∈ l, r.s.ok y) : ∀ y, Sep L y → chAt (some ⟨b, 0, none⟩) l y := fun y hy =>
  ⟨bk_rdx8 p (by simp) y hy, h y hy⟩
theorem rw_bk {b t : Nat} {l : List RwV} {L M : List Assn} (p : Pick (bk b t (rows RwV.cells l)) L M) (h : ∀ y, Sep L y → ∀ r ∈ l, r.s.ok y) : ∀ y, Sep L y → rwAt (some ⟨b, 0, none⟩) l y := fun y hy =>
  ⟨bk_rdx8 p (by simp) y hy, h y hy⟩
theorem okC1 {y : PH} {r : ChV} (h : r.s.ok y) : ∀ q ∈ [r], q.s.ok y := fun q hq => by rw [List.mem_singleton.1 hq]; exact h
theorem okR1 {y : PH} {r : RwV} (h : r.s.ok y) : ∀ q ∈ [r], q.s.ok y := fun q hq => by rw [List.mem_singleton.1 hq]; exact h
end Go.Cx
namespace Go.Proofs.YtlckhaodecdbbaaGreatDoor
open Go.Cx
attribute [local irreducible] Go.Cx.CX Go.Cx.CC Go.Cx.CQ Go.Cx.PS Go.Cx.Ctr Go.Cx.CH
set_option maxRecDepth 10000
end Go.Proofs.YtlckhaodecdbbaaGreatDoor
/-! Changes between tables (batch.Between, Whole), a key's value (Find), in the program. Printed by bw.py (wip). -/
namespace Go.Cx
/-- What Between lays for what is handed out. -/
def outB : Option (Nat × RwV) × Option (Nat × RwV) → List ChM
  | (some (_, x), none) => [⟨x.key, [], true⟩]
  | (none, some (_, y)) => [⟨y.key, y.s.b, false⟩]
  | (some (_, x), some (_, y)) => if x.s.b = y.s.b then [] else [⟨y.key, y.s.b, false⟩]
  | (none, none) => []
theorem out_between : ∀ (i : Nat) (t : List RwV) (j : Nat) (l : List RwV), ((mrg rwKey rwKey i t j l).map outB).flatten = betweenM (t.map RwV.m) (l.map RwV.m) := by
  intro i t j l
  induction i, t, j, l using mrg.induct (ka := rwKey) (kb := rwKey) with
  | case1 => rw [mrg]; simp [betweenM]
  | case2 i j x t ih =>
    rw [mrg, List.map_cons, List.flatten_cons, ih]
    simp only [List.map_nil, List.map_cons]
    rw [betweenM]; rfl
  | case3 i j y l ih =>
    rw [mrg, List.map_cons, List.flatten_cons, ih]
    simp only [List.map_nil, List.map_cons]
    rw [betweenM]; rfl
  | case4 i x t j y l hk ih =>
    rw [mrg, if_pos hk, List.map_cons, List.flatten_cons, ih]
    simp only [List.map_cons]
    rw [betweenM, if_pos (show klt x.m.1 y.m.1 = true from hk)]; rfl
  | case5 i x t j y l hk he ih =>
    rw [mrg, if_neg hk, if_pos he, List.map_cons, List.flatten_cons, ih]
    simp only [List.map_cons]
    rw [betweenM, if_neg (show ¬ klt x.m.1 y.m.1 = true from hk), if_pos (show x.m.1 = y.m.1 from he)]
    simp only [outB, RwV.m]
    by_cases hg : x.s.b = y.s.b <;> simp [hg]
  | case6 i x t j y l hk he ih =>
    rw [mrg, if_neg hk, if_neg he, List.map_cons, List.flatten_cons, ih]
    simp only [List.map_cons]
    rw [betweenM, if_neg (show ¬ klt x.m.1 y.m.1 = true from hk), if_neg (show ¬ x.m.1 = y.m.1 from he)]; rfl
theorem valC_nil {l : List ChV} {k : Blk} (h : PH) (s : (valC l).ok h) : (valC (l ++ [⟨k, ⟨none, [], 0⟩, true⟩])).ok h := valC_ok.2 fun r hr => by
  rcases List.mem_append.1 hr with hr | hr
  · exact valC_ok.1 s r hr
  · obtain rfl := List.mem_singleton.1 hr
    exact slb_nil h
end Go.Cx
namespace Go.Proofs.YtlckhaodecdbbaaGreatDoor
open Go.Cx
attribute [local irreducible] Go.Cx.CX Go.Cx.CC Go.Cx.CQ Go.Cx.PS Go.Cx.Ctr Go.Cx.CH
set_option maxRecDepth 10000
theorem bequal_c (A B : Blk) (a b : Option Addr) (ca cb' : Nat) : Ctr Tryz.prog 161 [.slice a A.length ca, .slice b B.length cb'] [] (fun x => rdx a A.length (cb A) x ∧ rdx b B.length (cb B) x) (fun v M => v = .bool (decide (A = B)) ∧ M = []) := by
  refine Ctr.intro Tryz.func161 rfl Tryz.ntmps161 rfl fun x w hp => ?_
  refine wk ?_
  refine CX.ps (PS.toStr rfl rfl rfl (rdx_ex (by first | exact pickA | exact updA) hp.1)) ?_
  refine wk ?_
  refine CX.ps (PS.toStr rfl rfl rfl (rdx_ex (by first | exact pickA | exact updA) hp.2)) ?_
  refine CX.ps (PS.eqlStr rfl rfl rfl) ?_
  refine wk ?_
  ((apply CQ.end1; (· rfl); (· exact .tmp rfl)); (· exact ⟨rfl, rfl⟩); (· exact selA))
theorem mergR_c (t u : Value) (ht : t.cells = #[t]) (hu : u.cells = #[u]) : Ctr Tryz.prog 160 [t, u, .func (.func 82) #[] #[], .func (.func 82) #[] #[]] [] (fun _ => True)
    (fun v M => ∃ b1 b2 b3 b4, v = .func (.func 180) #[] #[.pointer (some ⟨b1, 0, none⟩), .pointer (some ⟨b2, 0, none⟩), .pointer (some ⟨b3, 0, none⟩), .pointer (some ⟨b4, 0, none⟩)] ∧
      M = [bk b1 32 [t], bk b2 32 [u], bk b3 134 [.func (.func 82) #[] #[]], bk b4 134 [.func (.func 82) #[] #[]]]) := by
  refine Ctr.intro Tryz.func160 rfl Tryz.ntmps160 rfl fun x w hp => ?_
  refine wk ?_
  (apply CX.box; (· rfl); (· rfl); intro b1)
  (apply CX.box; (· rfl); (· rfl); intro b2)
  rw [ht, hu]
  (apply CX.box; (· rfl); (· rfl); intro b3)
  (apply CX.box; (· rfl); (· rfl); intro b4)
  refine wk ?_
  (apply CQ.end1; (· rfl); (· exact .tmp rfl))
  · exact ⟨b1, b2, b3, b4, rfl, rfl⟩
  · exact selA
def BetweenP (t l : List RwV) (v : Value) (M : List Assn) : Prop :=
  (¬ (MayR (t.map RwV.m) ∧ MayR (l.map RwV.m)) → v = .tuple #[.slice none 0 0, .int .i64 2] ∧ M = []) ∧
  (MayR (t.map RwV.m) ∧ MayR (l.map RwV.m) → ∃ a c r, r.map ChV.m = betweenM (t.map RwV.m) (l.map RwV.m) ∧ v = .tuple #[.slice a r.length c, .int .i64 0] ∧ M = [chsA a r] ∧ (a = none → r.length = 0 ∧ c = 0) ∧ r.length ≤ c ∧ r.length ≤ t.length + l.length)
theorem between_c (t l : List RwV) (ht : t.length ≤ 1073741824) (hl : l.length ≤ 1073741824) (a b : Option Addr) (ca cb' : Nat) (hca : t.length ≤ ca) (hcb : l.length ≤ cb') :
    Ctr Tryz.prog 131 [.slice a t.length ca, .slice b l.length cb'] [] (fun x => rwAt a t x ∧ rwAt b l x) (BetweenP t l) := by
  unfold BetweenP
  refine Ctr.introM Tryz.func131 rfl Tryz.ntmps131 rfl fun x w hp => ?_
  obtain ⟨hpa, hpb⟩ := hp
  refine wk ?_
  refine CX.callA (mayR_c t (by omega) a ca) ?_ (hpre := by exact rw_ex (by first | exact pickA | exact updA) hpa)
  by_cases hmt : MayR (t.map RwV.m)
  rotate_left
  · rw [decide_eq_false hmt]
    rintro _ _ ⟨rfl, rfl⟩
    refine wk ?_
    refine CQ.endM2 rfl (.tmp rfl) (.tmp rfl) ⟨fun _ => ⟨rfl, rfl⟩, fun h => absurd h.1 hmt⟩ (by exact selA)
  rw [decide_eq_true hmt]
  rintro _ _ ⟨rfl, rfl⟩
  refine wk ?_
  refine CX.callA (mayR_c l (by omega) b cb') ?_ (hpre := by exact rw_ex (by first | exact pickA | exact updA) hpb)
  by_cases hml : MayR (l.map RwV.m)
  rotate_left
  · rw [decide_eq_false hml]
    rintro _ _ ⟨rfl, rfl⟩
    refine wk ?_
    refine CQ.endM2 rfl (.tmp rfl) (.tmp rfl) ⟨fun _ => ⟨rfl, rfl⟩, fun h => absurd h.2 hml⟩ (by exact selA)
  rw [decide_eq_true hml]
  rintro _ _ ⟨rfl, rfl⟩
  refine wk ?_
  refine CX.allocZ [.slice none 0 0] ?_ (hv := rfl)
  intro b6
  refine wk ?_
  refine CX.callA (mergR_c (.slice a t.length ca) (.slice b l.length cb') rfl rfl) ?_
  rintro _ _ ⟨b1, b2, b3, b4, rfl, rfl⟩
  refine wk ?_
  refine CC.ownNil 68 3 ?_
  refine CC.give (valC []) (fun _ => valC_ok.2 fun _ h => by cases h) ?_
  have hLl := mrg_len rwKey rwKey 0 t 0 l
  have hfact := mrg_fact rwKey rwKey 0 t 0 l
  have hall := out_between 0 t 0 l
  have It := itR_c t l ht hl a b ca cb' hca hcb b1 b2 b3 b4
  generalize mrg rwKey rwKey 0 t 0 l = Lm at *
  refine CC.range It rfl (fun k M => ∃ a1 c1 r, M = [bk b6 34 [.slice a1 r.length c1], own 68 3 a1 r.length c1 (rows ChV.cells r), valC r] ∧ r.map ChV.m = ((Lm.take k).map outB).flatten ∧ r.length ≤ k)
    (M0 := [bk b6 34 [.slice none 0 0], own 68 3 none 0 0 [], valC []]) ⟨none, 0, [], rfl, rfl, Nat.le_refl _⟩ (by exact selA) (fun y hy => ⟨rw_ex (by first | exact pickA | exact updA) hpa y hy, rw_ex (by first | exact pickA | exact updA) hpb y hy⟩) (fun v hv => by
      obtain ⟨p, _, rfl⟩ := List.mem_map.1 hv; rfl) ?_ ?_
  · rintro ly ⟨st, pd, rfn, rtm, rps, ras, rbd, rdf⟩ k v M y e1 hk ⟨a1, c1, r, rfl, hr, hrk⟩ hst hpd hy
    dsimp only at hst hpd
    subst hst; subst hpd
    rw [List.getElem?_map, Option.map_eq_some_iff] at hk
    obtain ⟨p, hk, rfl⟩ := hk
    have hkl : k < Lm.length := (List.getElem?_eq_some_iff.1 hk).1
    have hpL : p ∈ Lm := List.mem_of_getElem? hk
    obtain ⟨hf1, hf2, hf3⟩ := hfact p hpL
    have hout : ((Lm.take (k + 1)).map outB).flatten = ((Lm.take k).map outB).flatten ++ outB p := by
      rw [List.take_succ_eq_append_getElem hkl, (List.getElem?_eq_some_iff.1 hk).2]; simp
    have hya : rwAt a t y := rw_ex (show Pick (exact x) _ _ from by first | exact pickA | exact updA) hpa y hy
    have hyb : rwAt b l y := rw_ex (show Pick (exact x) _ _ from by first | exact pickA | exact updA) hpb y hy
    clear hy
    obtain ⟨p1, p2⟩ := p
    cases p2 with
    | none =>
      cases p1 with
      | none => exact absurd ⟨rfl, rfl⟩ hf3
      | some q =>
        obtain ⟨n, z⟩ := q
        obtain ⟨m, rfl, hz⟩ := hf1 n z rfl
        obtain ⟨hm, rfl⟩ := List.getElem?_eq_some_iff.1 hz
        obtain ⟨ga, oa, rfl⟩ := rwAt_some hya (by omega)
        simp only [encM, Option.bind_some, Option.bind_none, atP_some, Nat.zero_add, putEs]
        refine wqk ?_
        refine CQ.begin rfl (by first | exact pickA | exact updA) ?_
        refine wqk ?_
        refine CR.draw [(0, 1), (1, 0), (2, 0), (3, 0), (4, 1), (5, 0), (6, 2), (7, 2), (8, 3)] mixed rfl (by kernel_rfl) (by kernel_rfl) [bk b6 34 [.slice a1 r.length c1], exact y] ?_
        refine hwk ?_
        (apply CH.read; (· rfl); (· apply PS.load (v := sv (t[m]).key); (· rfl); (· rfl); (· exact hya.cell (by first | exact pickA | exact updA) hm 0 rfl)); (· exact selA))
        refine CH.pure rfl (PS.build (vs := [(0, sv (t[m]).key), (2, .bool true)]) (out := [sv (t[m]).key, .slice none 0 0, .bool true]) rfl rfl rfl) ?_
        refine CH.chain rfl fun K hK => ?_
        refine CX.buildSl (parts := [(0, _)]) (vs := [(0, .agg #[sv (t[m]).key, .slice none 0 0, .bool true])]) (out := [sv (t[m]).key, .slice none 0 0, .bool true]) rfl rfl (by decide) (by simp [fillL, Value.cells, setL]) fun bq => ?_
        (refine CX.nil ?_; refine CQ.thenK ?_; apply hK; (· exact selA); clear hK K)
        refine CH.chain rfl fun K hK => ?_
        refine CX.append (m := 1) (news := [sv (t[m]).key, .slice none 0 0, .bool true]) rfl rfl rfl (by first | exact pickA | exact updA) (RdS.pick (b := bq) (o := 0) (by first | exact pickA | exact updA) rfl (one_all rfl) rfl) (by omega) (fun h => by cases h) ?_
        intro a3 c3
        refine CX.turn (valC (r ++ [⟨(t[m]).key, ⟨none, [], 0⟩, true⟩])) valC_nil ?_
        (refine CX.nil ?_; refine CQ.thenK ?_; apply hK; (· exact selA); clear hK K)
        refine CH.tail rfl rfl fun K hK => ?_
        refine CX.storeA ?_
        (refine CX.nil ?_; refine CQ.thenK ?_; apply hK; clear hK K)
        refine hwk ?_
        refine wqk ?_
        refine CQ.endRound (by first | exact pickA | exact updA) ⟨rfl, [bk b6 34 [.slice a3 (r.length + 1) c3], own 68 3 a3 (r.length + 1) c3 (rows ChV.cells r ++ [sv (t[m]).key, .slice none 0 0, .bool true]), valC (r ++ [⟨(t[m]).key, ⟨none, [], 0⟩, true⟩])], rfl, a3, c3, r ++ [⟨(t[m]).key, ⟨none, [], 0⟩, true⟩], by rw [List.length_append, rows_append]; rfl, by rw [hout, List.map_append, hr]; simp [outB, ChV.m], by simp only [List.length_append, List.length_singleton]; omega⟩ (by exact selA)
    | some q =>
      obtain ⟨n, z⟩ := q
      obtain ⟨m, rfl, hz⟩ := hf2 n z rfl
      obtain ⟨hm, rfl⟩ := List.getElem?_eq_some_iff.1 hz
      obtain ⟨gb, ob', rfl⟩ := rwAt_some hyb (by omega)
      have hval : (l[m]).s.b.length ≤ 1073741824 := by
        have := (hml.2 (l[m]).m (List.mem_map_of_mem (List.getElem_mem hm))).2.2
        have e : (l[m]).m.2.length = (l[m]).s.b.length := rfl
        omega
      have hzs := hyb.2 l[m] (List.getElem_mem hm)
      cases p1 with
      | none =>
        simp only [encM, Option.bind_some, Option.bind_none, atP_some, Nat.zero_add, putEs]
        refine wqk ?_
        refine CQ.begin rfl (by first | exact pickA | exact updA) ?_
        refine wqk ?_
        refine CR.draw [(0, 0), (1, 0), (2, 0), (3, 0), (4, 0), (5, 0), (6, 1), (7, 0), (8, 0), (9, 0), (10, 1), (11, 3), (12, 0), (13, 0), (14, 0)] mixed rfl (by kernel_rfl) (by kernel_rfl) [exact y] ?_
        refine hwk ?_
        refine wqk ?_
        refine CR.draw [(0, 1), (1, 0), (2, 0), (3, 0), (4, 1), (5, 0), (6, 0), (7, 0), (8, 1), (9, 2), (10, 0), (11, 2), (12, 2), (13, 3)] mixed rfl (by kernel_rfl) (by kernel_rfl) [bk b6 34 [.slice a1 r.length c1], exact y] ?_
        refine hwk ?_
        (apply CH.read; (· rfl); (· apply PS.load (v := sv (l[m]).key); (· rfl); (· rfl); (· exact hyb.cell (by first | exact pickA | exact updA) hm 0 rfl)); (· exact selA))
        refine hwk ?_
        (apply CH.read; (· rfl); (· apply PS.load (v := .slice (l[m]).s.a (l[m]).s.b.length (l[m]).s.c); (· rfl); (· rfl); (· exact hyb.cell (by first | exact pickA | exact updA) hm 1 rfl)); (· exact selA))
        refine CH.chain rfl fun K hK => ?_
        refine CX.callA (clone_c (l[m]).s hval) ?_ (hpre := by exact fun z hz => (hzs).mono (Pick.ok (show Pick (exact y) _ _ from by first | exact pickA | exact updA) hz))
        rintro _ _ ⟨a2, c2, rfl, rfl⟩
        (refine CX.nil ?_; refine CQ.thenK ?_; apply hK; (· exact selA); clear hK K)
        refine CH.pure rfl (PS.build (vs := [(0, sv (l[m]).key), (1, .slice a2 (l[m]).s.b.length c2)]) (out := [sv (l[m]).key, .slice a2 (l[m]).s.b.length c2, .bool false]) rfl rfl rfl) ?_
        refine CH.chain rfl fun K hK => ?_
        refine CX.buildSl (parts := [(0, _)]) (vs := [(0, .agg #[sv (l[m]).key, .slice a2 (l[m]).s.b.length c2, .bool false])]) (out := [sv (l[m]).key, .slice a2 (l[m]).s.b.length c2, .bool false]) rfl rfl (by decide) (by simp [fillL, Value.cells, setL]) fun bq => ?_
        (refine CX.nil ?_; refine CQ.thenK ?_; apply hK; (· exact selA); clear hK K)
        refine CH.chain rfl fun K hK => ?_
        refine CX.append (m := 1) (news := [sv (l[m]).key, .slice a2 (l[m]).s.b.length c2, .bool false]) rfl rfl rfl (by first | exact pickA | exact updA) (RdS.pick (b := bq) (o := 0) (by first | exact pickA | exact updA) rfl (one_all rfl) rfl) (by omega) (fun h => by cases h) ?_
        intro a3 c3
        refine CX.merge (valC (r ++ [⟨(l[m]).key, ⟨a2, (l[m]).s.b, c2⟩, false⟩])) valC_snoc ?_
        (refine CX.nil ?_; refine CQ.thenK ?_; apply hK; (· exact selA); clear hK K)
        refine CH.tail rfl rfl fun K hK => ?_
        refine CX.storeA ?_
        (refine CX.nil ?_; refine CQ.thenK ?_; apply hK; clear hK K)
        refine hwk ?_
        refine wqk ?_
        refine CQ.endRound (by first | exact pickA | exact updA) ⟨rfl, [bk b6 34 [.slice a3 (r.length + 1) c3], own 68 3 a3 (r.length + 1) c3 (rows ChV.cells r ++ [sv (l[m]).key, .slice a2 (l[m]).s.b.length c2, .bool false]), valC (r ++ [⟨(l[m]).key, ⟨a2, (l[m]).s.b, c2⟩, false⟩])], rfl, a3, c3, r ++ [⟨(l[m]).key, ⟨a2, (l[m]).s.b, c2⟩, false⟩], by rw [List.length_append, rows_append]; rfl, by rw [hout, List.map_append, hr]; simp [outB, ChV.m], by simp only [List.length_append, List.length_singleton]; omega⟩ (by exact selA)
      | some q' =>
        obtain ⟨n', z'⟩ := q'
        obtain ⟨m', rfl, hz'⟩ := hf1 n' z' rfl
        obtain ⟨hm', rfl⟩ := List.getElem?_eq_some_iff.1 hz'
        obtain ⟨ga, oa, rfl⟩ := rwAt_some hya (by omega)
        have hzs' := hya.2 t[m'] (List.getElem_mem hm')
        simp only [encM, Option.bind_some, atP_some, Nat.zero_add, putEs]
        by_cases hb : (t[m']).s.b = (l[m]).s.b
        · refine wqk ?_
          refine CQ.begin rfl (by first | exact pickA | exact updA) ?_
          refine wqk ?_
          refine CR.draw [(0, 0), (1, 0), (2, 0), (3, 0), (4, 0), (5, 0), (6, 1), (7, 0), (8, 0), (9, 0), (10, 1), (11, 3), (12, 0), (13, 0), (14, 0)] mixed rfl (by kernel_rfl) (by kernel_rfl) [exact y] ?_
          refine hwk ?_
          (apply CH.read; (· rfl); (· apply PS.load (v := .slice (t[m']).s.a (t[m']).s.b.length (t[m']).s.c); (· rfl); (· rfl); (· exact hya.cell (by first | exact pickA | exact updA) hm' 1 rfl)); (· exact selA))
          refine hwk ?_
          (apply CH.read; (· rfl); (· apply PS.load (v := .slice (l[m]).s.a (l[m]).s.b.length (l[m]).s.c); (· rfl); (· rfl); (· exact hyb.cell (by first | exact pickA | exact updA) hm 1 rfl)); (· exact selA))
          refine CH.tail rfl rfl fun K hK => ?_
          refine CX.callA (bequal_c (t[m']).s.b (l[m]).s.b (t[m']).s.a (l[m]).s.a (t[m']).s.c (l[m]).s.c) ?_ (hpre := by exact fun z hz => ⟨rdx_ex (show Pick (exact y) _ _ from by first | exact pickA | exact updA) hzs'.r z hz, rdx_ex (show Pick (exact y) _ _ from by first | exact pickA | exact updA) hzs.r z hz⟩)
          rw [decide_eq_true hb]
          rintro _ _ ⟨rfl, rfl⟩
          (refine CX.nil ?_; refine CQ.thenK ?_; apply hK; clear hK K)
          refine hwk ?_
          refine wqk ?_
          refine CQ.endRound (by first | exact pickA | exact updA) ⟨rfl, [bk b6 34 [.slice a1 r.length c1], own 68 3 a1 r.length c1 (rows ChV.cells r), valC r], rfl, a1, c1, r, rfl, by rw [hout, hr]; simp [outB, hb], by omega⟩ (by exact selA)
        · refine wqk ?_
          refine CQ.begin rfl (by first | exact pickA | exact updA) ?_
          refine wqk ?_
          refine CR.draw [(0, 0), (1, 0), (2, 0), (3, 0), (4, 0), (5, 0), (6, 1), (7, 0), (8, 0), (9, 0), (10, 1), (11, 3), (12, 0), (13, 0), (14, 0)] mixed rfl (by kernel_rfl) (by kernel_rfl) [exact y] ?_
          refine hwk ?_
          (apply CH.read; (· rfl); (· apply PS.load (v := .slice (t[m']).s.a (t[m']).s.b.length (t[m']).s.c); (· rfl); (· rfl); (· exact hya.cell (by first | exact pickA | exact updA) hm' 1 rfl)); (· exact selA))
          refine hwk ?_
          (apply CH.read; (· rfl); (· apply PS.load (v := .slice (l[m]).s.a (l[m]).s.b.length (l[m]).s.c); (· rfl); (· rfl); (· exact hyb.cell (by first | exact pickA | exact updA) hm 1 rfl)); (· exact selA))
          refine CH.tail rfl rfl fun K hK => ?_
          refine CX.callA (bequal_c (t[m']).s.b (l[m]).s.b (t[m']).s.a (l[m]).s.a (t[m']).s.c (l[m]).s.c) ?_ (hpre := by exact fun z hz => ⟨rdx_ex (show Pick (exact y) _ _ from by first | exact pickA | exact updA) hzs'.r z hz, rdx_ex (show Pick (exact y) _ _ from by first | exact pickA | exact updA) hzs.r z hz⟩)
          rw [decide_eq_false hb]
          rintro _ _ ⟨rfl, rfl⟩
          (refine CX.nil ?_; refine CQ.thenK ?_; apply hK; clear hK K)
          refine hwk ?_
          refine wqk ?_
          refine CR.draw [(0, 1), (1, 0), (2, 0), (3, 0), (4, 1), (5, 0), (6, 0), (7, 0), (8, 1), (9, 2), (10, 0), (11, 2), (12, 2), (13, 3)] mixed rfl (by kernel_rfl) (by kernel_rfl) [bk b6 34 [.slice a1 r.length c1], exact y] ?_
          refine hwk ?_
          (apply CH.read; (· rfl); (· apply PS.load (v := sv (l[m]).key); (· rfl); (· rfl); (· exact hyb.cell (by first | exact pickA | exact updA) hm 0 rfl)); (· exact selA))
          refine hwk ?_
          (apply CH.read; (· rfl); (· apply PS.load (v := .slice (l[m]).s.a (l[m]).s.b.length (l[m]).s.c); (· rfl); (· rfl); (· exact hyb.cell (by first | exact pickA | exact updA) hm 1 rfl)); (· exact selA))
          refine CH.chain rfl fun K hK => ?_
          refine CX.callA (clone_c (l[m]).s hval) ?_ (hpre := by exact fun z hz => (hzs).mono (Pick.ok (show Pick (exact y) _ _ from by first | exact pickA | exact updA) hz))
          rintro _ _ ⟨a2, c2, rfl, rfl⟩
          (refine CX.nil ?_; refine CQ.thenK ?_; apply hK; (· exact selA); clear hK K)
          refine CH.pure rfl (PS.build (vs := [(0, sv (l[m]).key), (1, .slice a2 (l[m]).s.b.length c2)]) (out := [sv (l[m]).key, .slice a2 (l[m]).s.b.length c2, .bool false]) rfl rfl rfl) ?_
          refine CH.chain rfl fun K hK => ?_
          refine CX.buildSl (parts := [(0, _)]) (vs := [(0, .agg #[sv (l[m]).key, .slice a2 (l[m]).s.b.length c2, .bool false])]) (out := [sv (l[m]).key, .slice a2 (l[m]).s.b.length c2, .bool false]) rfl rfl (by decide) (by simp [fillL, Value.cells, setL]) fun bq => ?_
          (refine CX.nil ?_; refine CQ.thenK ?_; apply hK; (· exact selA); clear hK K)
          refine CH.chain rfl fun K hK => ?_
          refine CX.append (m := 1) (news := [sv (l[m]).key, .slice a2 (l[m]).s.b.length c2, .bool false]) rfl rfl rfl (by first | exact pickA | exact updA) (RdS.pick (b := bq) (o := 0) (by first | exact pickA | exact updA) rfl (one_all rfl) rfl) (by omega) (fun h => by cases h) ?_
          intro a3 c3
          refine CX.merge (valC (r ++ [⟨(l[m]).key, ⟨a2, (l[m]).s.b, c2⟩, false⟩])) valC_snoc ?_
          (refine CX.nil ?_; refine CQ.thenK ?_; apply hK; (· exact selA); clear hK K)
          refine CH.tail rfl rfl fun K hK => ?_
          refine CX.storeA ?_
          (refine CX.nil ?_; refine CQ.thenK ?_; apply hK; clear hK K)
          refine hwk ?_
          refine wqk ?_
          refine CQ.endRound (by first | exact pickA | exact updA) ⟨rfl, [bk b6 34 [.slice a3 (r.length + 1) c3], own 68 3 a3 (r.length + 1) c3 (rows ChV.cells r ++ [sv (l[m]).key, .slice a2 (l[m]).s.b.length c2, .bool false]), valC (r ++ [⟨(l[m]).key, ⟨a2, (l[m]).s.b, c2⟩, false⟩])], rfl, a3, c3, r ++ [⟨(l[m]).key, ⟨a2, (l[m]).s.b, c2⟩, false⟩], by rw [List.length_append, rows_append]; rfl, by rw [hout, List.map_append, hr]; simp [outB, ChV.m, hb], by simp only [List.length_append, List.length_singleton]; omega⟩ (by exact selA)
  · rintro D M ⟨a1, c1, r, rfl, hr, hrk⟩
    rw [List.length_map] at hr hrk
    rw [List.take_length, hall] at hr
    refine wdk ?_
    refine CQ.fact (own_none (e := 68) (sz := 3) (by first | exact pickA | exact updA)) ?_
    rintro ⟨hn1, hn2, hn3⟩
    refine CQ.merge (chsA a1 r) own_chs ?_
    refine CQ.endD2 rfl (by first | exact pickA | exact updA) (.tmp rfl) (.tmp rfl) ⟨fun h => absurd ⟨hmt, hml⟩ h, fun _ => ⟨a1, c1, r, hr, rfl, rfl, hn1, hn2, by omega⟩⟩ (by exact selA)
theorem whole_c (l : List RwV) (hl : l.length ≤ 1073741824) (b : Option Addr) (cb' : Nat) (hcb : l.length ≤ cb') :
    Ctr Tryz.prog 89 [.slice b l.length cb'] [] (fun x => rwAt b l x) (BetweenP [] l) := by
  refine Ctr.intro Tryz.func89 rfl Tryz.ntmps89 rfl fun x w hp => ?_
  refine wk ?_
  refine CX.callA (between_c [] l (Nat.zero_le _) hl none b 0 cb' (Nat.le_refl _) hcb) ?_ (hpre := by exact fun y hy => ⟨⟨.inl rfl, fun _ h => by cases h⟩, rw_ex (show Pick (exact x) _ _ from by first | exact pickA | exact updA) hp y hy⟩)
  rintro v M ⟨h1, h2⟩
  by_cases hm : MayR (([] : List RwV).map RwV.m) ∧ MayR (l.map RwV.m)
  · obtain ⟨a, c, r, e1, rfl, rfl, e2, e3, e4⟩ := h2 hm
    refine wk ?_
    (apply CQ.end2; (· rfl); (· exact .tmp rfl); (· exact .tmp rfl))
    · exact ⟨fun h => absurd hm h, fun _ => ⟨a, c, r, e1, rfl, rfl, e2, e3, e4⟩⟩
    · exact selA
  · obtain ⟨rfl, rfl⟩ := h1 hm
    refine wk ?_
    (apply CQ.end2; (· rfl); (· exact .tmp rfl); (· exact .tmp rfl))
    · exact ⟨fun _ => ⟨rfl, rfl⟩, fun h => absurd h hm⟩
    · exact selA
end Go.Proofs.YtlckhaodecdbbaaGreatDoor
/-! A key's value (batch.Find), in the program. -/
namespace Go.Cx
theorem ris_at {l : List RwV} (h : Rising (l.map RwV.m)) {i j : Nat} (hij : i < j) (hj : j < l.length) : klt (l[i]'(by omega)).key (l[j]).key = true :=
  List.pairwise_iff_getElem.1 ((risR_iff l).1 h) i j (by omega) hj hij
theorem cmp_neg {a b : Blk} : cmpZ a b < 0 ↔ klt a b = true := by
  unfold cmpZ
  by_cases h : klt a b = true
  · simp [h]
  · simp only [if_neg h]; constructor
    · intro hh; split at hh <;> omega
    · intro hh; exact absurd hh h
theorem cmp_zero {a b : Blk} : cmpZ a b = 0 ↔ a = b := by
  unfold cmpZ
  by_cases h : klt a b = true
  · rw [if_pos h]; constructor
    · intro hh; omega
    · intro e; rw [e, klt_irr] at h; cases h
  · rw [if_neg h]
    by_cases e : a = b
    · simp [e]
    · simp [e]
theorem val_none {t : Tab} {k : Blk} (h : ∀ x ∈ t, x.1 ≠ k) : val t k = none := by
  cases hv : val t k with
  | none => rfl
  | some v => exact absurd rfl (h _ (mem_val hv))
end Go.Cx
namespace Go.Proofs.YtlckhaodecdbbaaGreatDoor
open Go.Cx
attribute [local irreducible] Go.Cx.CX Go.Cx.CC Go.Cx.CQ Go.Cx.PS Go.Cx.Ctr Go.Cx.CH
set_option maxRecDepth 10000
theorem bf1_c (r : RwV) (k : Blk) : Ctr Tryz.prog 109 [.agg r.cells.toArray, sv k] [] (fun _ => True) (fun v M => v = .int .i64 (cmpZ r.key k) ∧ M = []) := by
  refine Ctr.intro Tryz.func109 rfl Tryz.ntmps109 rfl fun x w hp => ?_
  refine wk ?_
  (refine CX.boxA (vs := r.cells) ?_; intro b)
  refine wk ?_
  refine CX.callA (cmp_c r.key k) ?_
  rintro _ _ ⟨rfl, rfl⟩
  refine wk ?_
  ((apply CQ.end1; (· rfl); (· exact .tmp rfl)); (· exact ⟨rfl, rfl⟩); (· exact selA))
theorem bs_c (l : List RwV) (hl : l.length ≤ 1073741824) (hR : Rising (l.map RwV.m)) (a : Option Addr) (cap : Nat) (k : Blk) : Ctr Tryz.prog 108 [.slice a l.length cap, sv k, .func (.func 109) #[] #[]] [] (fun x => rwAt a l x)
    (fun v M => ∃ (i : Nat) (d : Bool), v = .tuple #[.int .i64 (i : Int), .bool d] ∧ M = [] ∧ (d = true → ∃ h : i < l.length, (l[i]).key = k) ∧ (d = false → ∀ r ∈ l, r.key ≠ k)) := by
  refine Ctr.intro Tryz.func108 rfl Tryz.ntmps108 rfl fun x w hp => ?_
  refine wk ?_
  refine CC.loop (X := Nat × Nat) (fun s => [(9, .int .i64 (s.1 : Int)), (10, .int .i64 (s.2 : Int)), (8, .int .i64 (l.length : Int)), (0, .slice a l.length cap), (1, sv k), (2, .func (.func 109) #[] #[])])
    (fun s => [exact x]) (fun s => s.1 ≤ s.2 ∧ s.2 ≤ l.length ∧ (∀ q (hq : q < l.length), q < s.1 → klt (l[q]).key k = true) ∧ (∀ q (hq : q < l.length), s.2 ≤ q → ¬ klt (l[q]).key k = true)) (fun s => s.2 - s.1) (0, l.length) ⟨Nat.zero_le _, Nat.le_refl _, fun q hq h => by dsimp only at h; omega, fun q hq h => by dsimp only at h; omega⟩ ⟨rfl, rfl, rfl, rfl, rfl, rfl, trivial⟩ (by exact selA) ?_
  rintro ⟨i, j⟩ ⟨hij, hj, h1, h2⟩
  dsimp only at hij hj h1 h2 ⊢
  by_cases h3 : i < j
  · obtain ⟨g, off, rfl⟩ := rwAt_some hp (by omega)
    have hh : (i + j) / 2 ^ 1 < l.length := by omega
    refine wk ?_
    refine CX.ps (PS.shrN (i + j) 1 (by decide) rfl (eqI (by omega)) rfl) ?_
    generalize hhe : (i + j) / 2 ^ 1 = h at *
    refine wk ?_
    (refine CX.indexA (h) ?_ ?_; (· exact hh))
    (apply CX.ps; (· apply PS.loadG (vs := (l[h]).cells); (· rfl); (· rfl); (· exact hp.cells (by first | exact pickA | exact updA) hh); (· rfl)))
    refine wk ?_
    refine CX.callF (bf1_c l[h] k) ?_
    rintro _ _ ⟨rfl, rfl⟩
    by_cases h4 : cmpZ (l[h]).key k < 0
    · refine wk ?_
      have h5 := cmp_neg.1 h4
      exact CQ.round (x := (i, j)) (h + 1, j) ⟨by dsimp only; omega, hj, fun q hq hlt => by
        dsimp only at hlt
        by_cases e : q = h
        · subst e; exact h5
        · exact klt_tr (ris_at hR (show q < h by omega) hh) h5, h2⟩ (by dsimp only; omega) ⟨eqI (by simp), rfl, rfl, rfl, rfl, rfl, trivial⟩ (by exact selA)
    · refine wk ?_
      exact CQ.round (x := (i, j)) (i, h) ⟨by dsimp only; omega, by dsimp only; omega, h1, fun q hq hle => by
        dsimp only at hle
        intro hc
        by_cases e : q = h
        · subst e; exact h4 (cmp_neg.2 hc)
        · exact h4 (cmp_neg.2 (klt_tr (ris_at hR (show h < q by omega) hq) hc))⟩ (by dsimp only; omega) ⟨rfl, rfl, rfl, rfl, rfl, rfl, trivial⟩ (by exact selA)
  · obtain rfl : i = j := by omega
    by_cases h6 : i < l.length
    · obtain ⟨g, off, rfl⟩ := rwAt_some hp (by omega)
      by_cases h7 : cmpZ (l[i]).key k = 0
      · refine wk ?_
        (refine CX.indexA (i) ?_ ?_; (· exact h6))
        (apply CX.ps; (· apply PS.loadG (vs := (l[i]).cells); (· rfl); (· rfl); (· exact hp.cells (by first | exact pickA | exact updA) h6); (· rfl)))
        refine wk ?_
        refine CX.callF (bf1_c l[i] k) ?_
        rw [h7]
        rintro _ _ ⟨rfl, rfl⟩
        refine wk ?_
        (apply CQ.end2; (· rfl); (· exact .tmp rfl); (· exact .tmp rfl))
        · exact ⟨i, true, rfl, rfl, fun _ => ⟨h6, cmp_zero.1 h7⟩, fun h => by cases h⟩
        · exact selA
      · refine wk ?_
        (refine CX.indexA (i) ?_ ?_; (· exact h6))
        (apply CX.ps; (· apply PS.loadG (vs := (l[i]).cells); (· rfl); (· rfl); (· exact hp.cells (by first | exact pickA | exact updA) h6); (· rfl)))
        refine wk ?_
        refine CX.callF (bf1_c l[i] k) ?_
        rintro _ _ ⟨rfl, rfl⟩
        refine wk ?_
        (apply CQ.end2; (· rfl); (· exact .tmp rfl); (· exact .tmp rfl))
        · refine ⟨i, false, rfl, rfl, (fun h => by cases h), fun _ r hr e => ?_⟩
          obtain ⟨q, hq, rfl⟩ := List.getElem_of_mem hr
          subst e
          rcases Nat.lt_trichotomy q i with h | h | h
          · have := h1 q hq h; rw [klt_irr] at this; cases this
          · subst h; exact h7 (cmp_zero.2 rfl)
          · exact h2 i h6 (Nat.le_refl _) (ris_at hR h hq)
        · exact selA
    · refine wk ?_
      (apply CQ.end2; (· rfl); (· exact .tmp rfl); (· exact .tmp rfl))
      · refine ⟨i, false, rfl, rfl, (fun h => by cases h), fun _ r hr e => ?_⟩
        obtain ⟨q, hq, rfl⟩ := List.getElem_of_mem hr
        subst e
        have := h1 q hq (by omega); rw [klt_irr] at this; cases this
      · exact selA
end Go.Proofs.YtlckhaodecdbbaaGreatDoor
/-! The statement BatchWay, in the program. -/
namespace Go.Cx
theorem between_ok : ∀ (a b : Tab), (∀ r ∈ a, okR r) → (∀ r ∈ b, okR r) → ∀ c ∈ betweenM a b, c.ok := by
  have gone : ∀ {x : Blk × Blk}, okR x → (ChM.mk x.1 [] true).ok := fun h => ⟨h.1, h.2.1, Nat.zero_le _, fun _ => rfl⟩
  have laid : ∀ {x : Blk × Blk}, okR x → (ChM.mk x.1 x.2 false).ok := fun h => ⟨h.1, h.2.1, h.2.2, fun h => by cases h⟩
  intro a b
  induction a, b using betweenM.induct with
  | case1 => intro _ _ c hc; rw [betweenM] at hc; cases hc
  | case2 x a ih =>
    intro ha hb c hc
    rw [betweenM] at hc
    rcases List.mem_cons.1 hc with rfl | hc
    · exact gone (ha x (by simp))
    · exact ih (fun r hr => ha r (by simp [hr])) hb c hc
  | case3 y b ih =>
    intro ha hb c hc
    rw [betweenM] at hc
    rcases List.mem_cons.1 hc with rfl | hc
    · exact laid (hb y (by simp))
    · exact ih ha (fun r hr => hb r (by simp [hr])) c hc
  | case4 x a y b hk ih =>
    intro ha hb c hc
    rw [betweenM, if_pos hk] at hc
    rcases List.mem_cons.1 hc with rfl | hc
    · exact gone (ha x (by simp))
    · exact ih (fun r hr => ha r (by simp [hr])) hb c hc
  | case5 x a y b hk he hv ih =>
    intro ha hb c hc
    rw [betweenM, if_neg hk, if_pos he, if_pos hv] at hc
    exact ih (fun r hr => ha r (by simp [hr])) (fun r hr => hb r (by simp [hr])) c hc
  | case6 x a y b hk he hv ih =>
    intro ha hb c hc
    rw [betweenM, if_neg hk, if_pos he, if_neg hv] at hc
    rcases List.mem_cons.1 hc with rfl | hc
    · exact laid (hb y (by simp))
    · exact ih (fun r hr => ha r (by simp [hr])) (fun r hr => hb r (by simp [hr])) c hc
  | case7 x a y b hk he ih =>
    intro ha hb c hc
    rw [betweenM, if_neg hk, if_neg he] at hc
    rcases List.mem_cons.1 hc with rfl | hc
    · exact laid (hb y (by simp))
    · exact ih ha (fun r hr => hb r (by simp [hr])) c hc
theorem between_may {a b : Tab} (ha : MayR a) (hb : MayR b) : MayC (betweenM a b) := ⟨between_rising a b ha.1 hb.1, between_ok a b ha.2 hb.2⟩
theorem may_nil : MayR [] := ⟨.nil, fun _ h => by cases h⟩
end Go.Cx
namespace Go.Proofs.YtlckhaodecdbbaaGreatDoor
open Go.Cx
attribute [local irreducible] Go.Cx.CX Go.Cx.CC Go.Cx.CQ Go.Cx.PS Go.Cx.Ctr Go.Cx.CH
set_option maxRecDepth 10000
end Go.Proofs.YtlckhaodecdbbaaGreatDoor
/-! Heads: plain laws. No program in sight. -/
namespace Go.Cx
/-! ### Heads -/
structure HdM where
  bank : Nat
  blocks : Nat
  batches : Nat
deriving DecidableEq
def HdM.z : HdM := ⟨0, 0, 0⟩
structure HdM.ok (h : HdM) : Prop where
  bank : h.bank < 256
  blocks : h.blocks < 4294967296
  batches : h.batches < 4294967296
def HdM.may (h : HdM) : Prop := h.bank < 2 ∧ h.blocks ≤ 4096 ∧ h.batches ≤ h.blocks
instance (h : HdM) : Decidable h.may := by unfold HdM.may; infer_instance
def HdM.bytes (h : HdM) : Blk := le 1 h.bank ++ (le 4 h.blocks ++ le 4 h.batches)
def ofBody (b : Blk) : HdM := ⟨ofLe (b.take 1), ofLe ((b.drop 1).take 4), ofLe ((b.drop 5).take 4)⟩
def most : Nat := 4611686018427387904
def putH (n : Nat) (h : HdM) : Blk × Int := if n = 0 ∨ most < n ∨ ¬ h.may then (zblk, 2) else (sealB n h.bytes, 0)
def getH (b : Blk) : Nat × HdM × Int :=
  if (getM b).2.2 ≠ 0 then (0, HdM.z, (getM b).2.2)
  else if most < (getM b).1 ∨ ¬ (ofBody (getM b).2.1).may ∨ ∃ c ∈ (getM b).2.1.drop 9, c ≠ 0 then (0, HdM.z, 5)
  else ((getM b).1, ofBody (getM b).2.1, 0)
def newH (a b : Blk) : Nat × HdM × Int :=
  if (getH a).2.2 ≠ 0 ∧ (getH b).2.2 ≠ 0 then (0, HdM.z, 7)
  else if (getH a).2.2 ≠ 0 ∨ ((getH b).2.2 = 0 ∧ (getH a).1 < (getH b).1) then ((getH b).1, (getH b).2.1, 0)
  else ((getH a).1, (getH a).2.1, 0)
theorem bytes_len (h : HdM) : h.bytes.length = 9 := by simp [HdM.bytes]
theorem may_ok {h : HdM} (m : h.may) : h.ok := by unfold HdM.may at m; exact ⟨by omega, by omega, by omega⟩
theorem ofBody_bytes {h : HdM} (o : h.ok) (r : Blk) : ofBody (h.bytes ++ r) = h := by
  obtain ⟨a, b, c⟩ := h
  have o1 := o.bank
  have o2 := o.blocks
  have o3 := o.batches
  simp only at o1 o2 o3
  have e1 : (HdM.bytes ⟨a, b, c⟩ ++ r).take 1 = le 1 a := by simp [HdM.bytes]
  have e2 : ((HdM.bytes ⟨a, b, c⟩ ++ r).drop 1).take 4 = le 4 b := by simp [HdM.bytes, List.drop_append, List.take_append]
  have e3 : ((HdM.bytes ⟨a, b, c⟩ ++ r).drop 5).take 4 = le 4 c := by simp [HdM.bytes, List.drop_append, List.take_append]
  rw [ofBody, e1, e2, e3, ofLe_le 1 a (by omega), ofLe_le 4 b (by omega), ofLe_le 4 c (by omega)]
theorem bytes_ofBody {b : Blk} (h : 9 ≤ b.length) : (ofBody b).bytes = b.take 9 := by
  unfold ofBody HdM.bytes
  have f : ∀ (c : Blk) (k : Nat), c.length = k → le k (ofLe c) = c := fun c k e => by subst e; exact le_ofLe c
  simp only [f (b.take 1) 1 (by simp; omega), f ((b.drop 1).take 4) 4 (by simp; omega), f ((b.drop 5).take 4) 4 (by simp; omega)]
  rw [show 9 = 1 + 8 from rfl, List.take_add, show 8 = 4 + 4 from rfl, List.take_add, List.drop_drop]
theorem ofBody_ok (b : Blk) : (ofBody b).ok := by
  unfold ofBody
  have f : ∀ (c : Blk) (k : Nat), ofLe (c.take k) < 256 ^ k := fun c k =>
    Nat.lt_of_lt_of_le (ofLe_lt (c.take k)) (Nat.pow_le_pow_right (by omega) (by simp; omega))
  exact ⟨f b 1, f _ 4, f _ 4⟩
theorem zeros_of {l : Blk} (h : ¬ ∃ c ∈ l, c ≠ 0) : l = List.replicate l.length 0 := by
  apply List.eq_replicate_of_mem
  intro c hc
  exact Decidable.byContradiction fun e => h ⟨c, hc, e⟩
theorem pad_bytes (h : HdM) : padB 108 h.bytes = h.bytes ++ List.replicate 99 0 := by simp [padB, bytes_len]
theorem get_put {n : Nat} {h : HdM} (h0 : (putH n h).2 = 0) : 1 ≤ n ∧ n ≤ most ∧ h.may ∧ (putH n h).1 = sealB n h.bytes ∧ getH (putH n h).1 = (n, h, 0) := by
  unfold putH at h0 ⊢
  split at h0
  · simp at h0
  rename_i hc
  rw [if_neg hc]
  have hm : h.may := Decidable.byContradiction fun e => hc (.inr (.inr e))
  have h1 : 1 ≤ n := by omega
  have h2 : n ≤ most := by omega
  refine ⟨h1, h2, hm, rfl, ?_⟩
  have g := get_sealB (n := n) (b := h.bytes) h1 (by simp only [most, top] at *; omega) (by rw [bytes_len]; omega)
  have e := ofBody_bytes (may_ok hm) (List.replicate 99 0)
  unfold getH
  simp only [g, pad_bytes, e]
  rw [if_neg (by simp), if_neg]
  rintro (a | a | ⟨c, hc, a⟩)
  · omega
  · exact a hm
  · rw [List.drop_append, bytes_len] at hc
    have : List.drop 9 h.bytes = [] := List.drop_of_length_le (by rw [bytes_len]; omega)
    simp [this] at hc
    exact a hc
theorem put_iff (n : Nat) (h : HdM) : (putH n h).2 = 0 ↔ 1 ≤ n ∧ n ≤ most ∧ h.may := by
  constructor
  · intro h0; have := get_put h0; exact ⟨this.1, this.2.1, this.2.2.1⟩
  · rintro ⟨a, b, c⟩; unfold putH; rw [if_neg]; rintro (h | h | h) <;> first | omega | exact h c
/-- What is got is put as the same block. -/
theorem put_get {b : Blk} (w : WB b) (h0 : (getH b).2.2 = 0) : 1 ≤ (getH b).1 ∧ (getH b).1 ≤ most ∧ (getH b).2.1.may ∧ sealB (getH b).1 (getH b).2.1.bytes = b := by
  unfold getH at h0 ⊢
  by_cases hg : (getM b).2.2 = 0
  · simp only [hg, ne_eq, not_true_eq_false, if_false] at h0 ⊢
    split at h0
    · simp at h0
    rename_i hc
    rw [if_neg hc]
    have v := get_valid hg
    have g := get_ok v
    have hm : (ofBody (getM b).2.1).may := Decidable.byContradiction fun e => hc (.inr (.inl e))
    have hz : ¬ ∃ c ∈ (getM b).2.1.drop 9, c ≠ 0 := fun e => hc (.inr (.inr e))
    have hn : (getM b).1 ≤ most := by omega
    rw [g] at hm hz hn ⊢
    dsimp only at hm hz hn ⊢
    have w' : b.length = 128 := w
    refine ⟨v.num, hn, hm, ?_⟩
    have e := valid_eq w v
    conv => rhs; rw [e]
    have hl : ((b.drop 8).take 108).length = 108 := by simp; omega
    have z := zeros_of hz
    have p : padB 108 (ofBody ((b.drop 8).take 108)).bytes = padB 108 ((b.drop 8).take 108) := by
      rw [pad_bytes, bytes_ofBody (by omega)]
      have : ((b.drop 8).take 108).drop 9 = List.replicate 99 0 := by rw [z]; congr 1; simp; omega
      rw [← this, List.take_append_drop, padB, hl]; simp
    unfold sealB frontB
    rw [p]
  · rw [if_pos hg] at h0; exact absurd h0 hg
theorem get_err (b : Blk) : (getH b).2.2 = 0 ∨ (getH b).1 = 0 ∧ (getH b).2.1 = HdM.z := by
  unfold getH
  split
  · exact .inr ⟨rfl, rfl⟩
  · split
    · exact .inr ⟨rfl, rfl⟩
    · exact .inl rfl
/-- The document's way: what is put again is the same. -/
theorem getH_eq {b : Blk} (w : WB b) : getH b = if (getM b).2.2 ≠ 0 then (0, HdM.z, (getM b).2.2)
    else if (putH (getM b).1 (ofBody (getM b).2.1)).2 ≠ 0 ∨ (putH (getM b).1 (ofBody (getM b).2.1)).1 ≠ b then (0, HdM.z, 5) else ((getM b).1, ofBody (getM b).2.1, 0) := by
  by_cases hg : (getM b).2.2 = 0
  · by_cases h0 : (getH b).2.2 = 0
    · have hp := put_get w h0
      have e : getH b = ((getM b).1, ofBody (getM b).2.1, 0) := by
        unfold getH at h0 ⊢
        rw [if_neg (by simp [hg])] at h0 ⊢
        split at h0
        · simp at h0
        · rename_i hc; rw [if_neg hc]
      rw [e] at hp
      dsimp only at hp
      have h1 := (put_iff (getM b).1 (ofBody (getM b).2.1)).2 ⟨hp.1, hp.2.1, hp.2.2.1⟩
      have h2 := (get_put h1).2.2.2.1
      rw [e, if_neg (by simp [hg]), if_neg]
      rintro (a | a)
      · exact a h1
      · exact a (by rw [h2]; exact hp.2.2.2)
    · have e : getH b = (0, HdM.z, 5) := by
        unfold getH at h0 ⊢
        rw [if_neg (by simp [hg])] at h0 ⊢
        split
        · rfl
        · rename_i hc; rw [if_neg hc] at h0; simp at h0
      rw [e, if_neg (by simp [hg]), if_pos]
      by_cases h1 : (putH (getM b).1 (ofBody (getM b).2.1)).2 = 0
      · right
        intro h2
        have := (get_put h1).2.2.2.2
        rw [h2] at this
        rw [this] at h0
        simp at h0
      · exact .inl h1
  · have hg' : (getM b).2.2 ≠ 0 := hg
    rw [if_pos hg']; unfold getH; rw [if_pos hg']
/-- Its way to the newest. -/
theorem newH_eq (a b : Blk) : newH a b = if (getH a).2.2 ≠ 0 ∧ (getH b).2.2 ≠ 0 then (0, HdM.z, 7) else if (getH a).1 < (getH b).1 then ((getH b).1, (getH b).2.1, 0) else ((getH a).1, (getH a).2.1, 0) := by
  unfold newH
  split
  · rfl
  rename_i hc
  have h1 : (getH b).2.2 = 0 → 1 ≤ (getH b).1 ∨ True := fun _ => .inr trivial
  have pos : ∀ c, (getH c).2.2 = 0 → 1 ≤ (getH c).1 := fun c h => by
    unfold getH at h ⊢
    by_cases hg : (getM c).2.2 = 0
    · rw [if_neg (by simp [hg])] at h ⊢
      split at h
      · simp at h
      · rename_i hc; rw [if_neg hc]; dsimp only; rw [get_ok (get_valid hg)]; exact (get_valid hg).num
    · have hg' : (getM c).2.2 ≠ 0 := hg
      rw [if_pos hg'] at h; exact absurd h hg
  rcases get_err a with ha | ⟨ha1, ha2⟩
  · rcases get_err b with hb | ⟨hb1, hb2⟩
    · simp [ha, hb]
    · by_cases hb : (getH b).2.2 = 0
      · simp [ha, hb]
      · have := pos a ha
        simp [ha, hb, hb1]
  · by_cases ha : (getH a).2.2 = 0
    · have := pos a ha; omega
    · have hb : (getH b).2.2 = 0 := Decidable.byContradiction fun e => hc ⟨ha, e⟩
      have := pos b hb
      rw [if_pos (.inl ha), if_pos (by omega)]
end Go.Cx
/-! Sealed blocks (seal), in the program. -/
namespace Go.Cx
def ins (B : Blk) (f : Nat) (c : Blk) : Blk := B.take f ++ (c ++ B.drop (f + c.length))
theorem ins_len {B c : Blk} {f : Nat} (h : f + c.length ≤ B.length) : (ins B f c).length = B.length := by simp [ins]; omega
theorem ins_mid (A c r : Blk) (k f : Nat) (hf : A.length = f) (hc : c.length ≤ k) : ins (A ++ (List.replicate k 0 ++ r)) f c = A ++ (c ++ (List.replicate (k - c.length) 0 ++ r)) := by
  subst hf
  have h1 : (A ++ (List.replicate k 0 ++ r)).take A.length = A := by simp
  have h2 : (A ++ (List.replicate k 0 ++ r)).drop (A.length + c.length) = List.replicate (k - c.length) 0 ++ r := by
    rw [← List.drop_drop, List.drop_left, List.drop_append_of_le_length (by simp; omega)]; simp
  rw [ins, h1, h2]
def seal1 (n : Nat) : Blk := ins zblk 0 (le 8 n)
def seal2 (n : Nat) (b : Blk) : Blk := ins (seal1 n) 8 b
def seal3 (n : Nat) (b : Blk) : Blk := ins (seal2 n b) 116 (le 4 (crcM ((seal2 n b).take 116)))
theorem seal1_eq (n : Nat) : seal1 n = le 8 n ++ (List.replicate 108 0 ++ List.replicate 12 0) := by
  have := ins_mid [] (le 8 n) [] 128 0 rfl (by simp)
  simp only [List.nil_append, List.append_nil, length_le] at this
  rw [seal1, zblk, this]; congr 1
theorem seal2_eq {n : Nat} {b : Blk} (h : b.length ≤ 108) : seal2 n b = frontB n b ++ (List.replicate 4 0 ++ List.replicate 8 0) := by
  rw [seal2, seal1_eq, ins_mid _ _ _ _ _ (by simp) h, frontB, padB]
  simp
theorem seal3_eq {n : Nat} {b : Blk} (h : b.length ≤ 108) : (seal2 n b).take 116 = frontB n b ∧ seal3 n b = frontB n b ++ (le 4 (crcM (frontB n b)) ++ (List.replicate 8 0 ++ [])) := by
  have e : (seal2 n b).take 116 = frontB n b := by
    rw [seal2_eq h, List.take_append_of_le_length (by rw [front_len h]; omega), List.take_of_length_le (by rw [front_len h]; omega)]
  refine ⟨e, ?_⟩
  have := ins_mid (frontB n b) (le 4 (crcM (frontB n b))) (List.replicate 8 0) 4 116 (front_len h) (by simp)
  rw [seal3, e, seal2_eq h, this]; simp
theorem seal4_eq {n : Nat} {b : Blk} (h : b.length ≤ 108) : ins (seal3 n b) 120 (le 8 (top - n)) = sealB n b := by
  have := ins_mid (frontB n b ++ le 4 (crcM (frontB n b))) (le 8 (top - n)) [] 8 120 (by simp [front_len h]) (by simp)
  rw [(seal3_eq h).2, ← List.append_assoc, this, sealB]; simp
theorem seal_WB {n : Nat} {b : Blk} (h : b.length ≤ 108) : WB (seal1 n) ∧ WB (seal2 n b) ∧ WB (seal3 n b) := by
  refine ⟨?_, ?_, ?_⟩
  · rw [seal1_eq]; simp [WB]
  · rw [seal2_eq h]; simp [WB, front_len h]
  · rw [(seal3_eq h).2]; simp [WB, front_len h]
def newestM (a b : Blk) : Int × Int := if (getM a).1 = 0 ∧ (getM b).1 = 0 then (0, 7) else if (getM a).1 < (getM b).1 then (1, 0) else (0, 0)
def nextM (a b : Blk) : Int := if (getM a).1 = 0 ∧ (getM b).1 = 0 then 0 else if (getM a).1 < (getM b).1 then 0 else 1
theorem getM_lt (b : Blk) : (getM b).1 < 18446744073709551616 := by
  unfold getM
  split
  · omega
  split
  · omega
  · have := ofLe_lt (b.take 8)
    have h2 : 256 ^ (b.take 8).length ≤ 256 ^ 8 := Nat.pow_le_pow_right (by omega) (by simp; omega)
    exact Nat.lt_of_lt_of_le this h2
theorem or_zero {n m : Nat} (h : n = 0 ∧ m = 0) : n ||| m = 0 := by rw [h.1, h.2]; rfl
theorem or_nz {n m : Nat} (h : ¬ (n = 0 ∧ m = 0)) : 0 < n ||| m := by
  have h1 := Nat.left_le_or (n := n) (m := m)
  have h2 := Nat.right_le_or (n := n) (m := m)
  omega
theorem getN_0 {B : Blk} {k : Nat} (hk : k = 1 ∨ k = 2 ∨ k = 4 ∨ k = 8) (h : B.length = k) : getN B 0 (k : Int) = (ofLe B, 0) := by
  unfold getN
  rw [if_neg (by unfold okSize; omega), if_neg (by omega)]
  simp [List.take_of_length_le (show B.length ≤ k by omega)]
end Go.Cx
namespace Go.Proofs.YtlckhaodecdbbaaGreatDoor
open Go.Cx
attribute [local irreducible] Go.Cx.CX Go.Cx.CC Go.Cx.CQ Go.Cx.PS Go.Cx.Ctr Go.Cx.CH
set_option maxRecDepth 10000
theorem sbegin_c : Ctr Tryz.prog 181 [] [] (fun _ => True) (fun v M => v = .agg #[.int .i64 0, .int .i64 8] ∧ M = []) := by
  refine Ctr.intro Tryz.func181 rfl Tryz.ntmps181 rfl fun x w hp => ?_
  refine wk ?_
  (refine CX.allocA ?_; intro r)
  refine wk ?_
  (apply CX.ps; (· apply PS.build (out := [.int .i64 0, .int .i64 8]); (· rfl); (· rfl); (· rfl)))
  (refine CX.storeB (vs := [.int .i64 0, .int .i64 8]) ?_ ?_ ?_ ?_; (· rfl); (· rfl); (· exact one_all rfl))
  refine wk ?_
  ((apply CQ.end1; (· rfl); (· exact .cells inferInstance rfl (CellsAt.all (by first | exact pickA | exact updA)) (rfl))); (· exact ⟨rfl, rfl⟩); (· exact selA))
theorem sinner_c : Ctr Tryz.prog 186 [] [] (fun _ => True) (fun v M => v = .agg #[.int .i64 8, .int .i64 116] ∧ M = []) := by
  refine Ctr.intro Tryz.func186 rfl Tryz.ntmps186 rfl fun x w hp => ?_
  refine wk ?_
  (refine CX.allocA ?_; intro r)
  refine wk ?_
  (apply CX.ps; (· apply PS.build (out := [.int .i64 8, .int .i64 116]); (· rfl); (· rfl); (· rfl)))
  (refine CX.storeB (vs := [.int .i64 8, .int .i64 116]) ?_ ?_ ?_ ?_; (· rfl); (· rfl); (· exact one_all rfl))
  refine wk ?_
  ((apply CQ.end1; (· rfl); (· exact .cells inferInstance rfl (CellsAt.all (by first | exact pickA | exact updA)) (rfl))); (· exact ⟨rfl, rfl⟩); (· exact selA))
theorem scheck_c : Ctr Tryz.prog 184 [] [] (fun _ => True) (fun v M => v = .agg #[.int .i64 116, .int .i64 120] ∧ M = []) := by
  refine Ctr.intro Tryz.func184 rfl Tryz.ntmps184 rfl fun x w hp => ?_
  refine wk ?_
  (refine CX.allocA ?_; intro r)
  refine wk ?_
  (apply CX.ps; (· apply PS.build (out := [.int .i64 116, .int .i64 120]); (· rfl); (· rfl); (· rfl)))
  (refine CX.storeB (vs := [.int .i64 116, .int .i64 120]) ?_ ?_ ?_ ?_; (· rfl); (· rfl); (· exact one_all rfl))
  refine wk ?_
  ((apply CQ.end1; (· rfl); (· exact .cells inferInstance rfl (CellsAt.all (by first | exact pickA | exact updA)) (rfl))); (· exact ⟨rfl, rfl⟩); (· exact selA))
theorem send_c : Ctr Tryz.prog 183 [] [] (fun _ => True) (fun v M => v = .agg #[.int .i64 120, .int .i64 128] ∧ M = []) := by
  refine Ctr.intro Tryz.func183 rfl Tryz.ntmps183 rfl fun x w hp => ?_
  refine wk ?_
  (refine CX.allocA ?_; intro r)
  refine wk ?_
  (apply CX.ps; (· apply PS.build (out := [.int .i64 120, .int .i64 128]); (· rfl); (· rfl); (· rfl)))
  (refine CX.storeB (vs := [.int .i64 120, .int .i64 128]) ?_ ?_ ?_ ?_; (· rfl); (· rfl); (· exact one_all rfl))
  refine wk ?_
  ((apply CQ.end1; (· rfl); (· exact .cells inferInstance rfl (CellsAt.all (by first | exact pickA | exact updA)) (rfl))); (· exact ⟨rfl, rfl⟩); (· exact selA))
theorem spof_c (b f k : Nat) (h0 : 0 < k) (h : f + k ≤ 128) : Ctr Tryz.prog 187 [.agg #[.int .i64 (f : Int), .int .i64 ((f + k : Nat) : Int)], .pointer (some ⟨b, 0, none⟩)] [] (fun _ => True)
    (fun v M => v = .slice (some ⟨b, f, none⟩) k k ∧ M = []) := by
  have e : cutAt (some ⟨b, 0, none⟩) f (f + k) 1 = some ⟨b, f, none⟩ := by unfold cutAt; rw [if_neg (by omega)]; simp [addr_add]
  have e2 : f + k - f = k := by omega
  refine Ctr.intro Tryz.func187 rfl Tryz.ntmps187 rfl fun x w hp => ?_
  refine wk ?_
  refine CX.boxA (vs := [.int .i64 (f : Int), .int .i64 ((f + k : Nat) : Int)]) ?_
  intro t
  refine wk ?_
  refine CC.draw [(0, 0), (1, 0), (2, 0), (3, 1), (4, 0), (5, 1), (6, 0), (7, 1), (8, 0), (9, 0)] mixed rfl (by kernel_rfl) (by kernel_rfl) [bk t 242 [.int .i64 (f : Int), .int .i64 ((f + k : Nat) : Int)]] ?_
  refine hwk ?_
  (apply CH.pure; (· rfl); (· apply PS.sliceArr3 (l := f) (h := f + k) (m := f + k); (· rfl); (· rfl); (· rfl); (· rfl); (· rfl); (· exact .inr ⟨_, rfl⟩); (· exact ⟨_, rfl⟩); (· omega); (· omega); (· omega)))
  rw [e, e2]
  refine hwk ?_
  refine wk ?_
  ((apply CQ.end1; (· rfl); (· exact .tmp rfl)); (· exact ⟨rfl, rfl⟩); (· exact selA))
theorem spput_c (b t f k n : Nat) (B : Blk) (hB : WB B) (hk : k = 4 ∨ k = 8) (h : f + k ≤ 128) (hn : n < 256 ^ k) : Ctr Tryz.prog 191 [.agg #[.int .i64 (f : Int), .int .i64 ((f + k : Nat) : Int)], .pointer (some ⟨b, 0, none⟩), .int .u64 (n : Int)] [bk b t (cb B)] (fun _ => True)
    (fun v M => v = .tuple #[] ∧ M = [bk b t (cb (ins B f (le k n)))]) := by
  have hB' : B.length = 128 := hB
  refine Ctr.intro Tryz.func191 rfl Tryz.ntmps191 rfl fun x w hp => ?_
  refine wk ?_
  refine CX.boxA (vs := [.int .i64 (f : Int), .int .i64 ((f + k : Nat) : Int)]) ?_
  intro q
  refine wk ?_
  have e : ((f + k : Nat) : Int) - (f : Int) = (k : Int) := by omega
  rw [e]
  refine CX.callA (nput_c n k (by omega) hn) ?_
  rintro _ _ ⟨c, rfl, rfl⟩
  refine wk ?_
  (apply CX.ps; (· apply PS.loadG (vs := [.int .i64 (f : Int), .int .i64 ((f + k : Nat) : Int)]); (· rfl); (· rfl); (· exact CellsAt.all (by first | exact pickA | exact updA)); (· rfl)))
  refine wk ?_
  refine CX.callA (spof_c b f k (by omega) h) ?_
  rintro _ _ ⟨rfl, rfl⟩
  refine wk ?_
  apply CX.copyBk (m := k) (news := cb (le k n))
  · rfl
  · rfl
  · rfl
  · exact RdS.own (by first | exact pickA | exact updA) (one_cb _) (by omega)
  · first | exact pickA | exact updA
  · simp
  · simp; omega
  rw [List.take_of_length_le (by simp), cb_setL]
  refine wk ?_
  (apply CQ.end0; (· rfl))
  · exact ⟨rfl, rfl⟩
  · exact selA
theorem spget_c (b f k : Nat) (B : Blk) (hB : WB B) (hk : k = 4 ∨ k = 8) (h : f + k ≤ 128) : Ctr Tryz.prog 182 [.agg #[.int .i64 (f : Int), .int .i64 ((f + k : Nat) : Int)], .pointer (some ⟨b, 0, none⟩)] [] (fun x => rdx (some ⟨b, 0, none⟩) 128 (cb B) x)
    (fun v M => v = .int .u64 ((ofLe ((B.drop f).take k) : Nat) : Int) ∧ M = []) := by
  have hB' : B.length = 128 := hB
  have e : ((f + k : Nat) : Int) - (f : Int) = (k : Int) := by omega
  have hl : ((B.drop f).take k).length = k := by simp; omega
  have e2 := getN_0 (B := (B.drop f).take k) (k := k) (by omega) hl
  refine Ctr.intro Tryz.func182 rfl Tryz.ntmps182 rfl fun x w hp => ?_
  have hp2 : rdx (some ⟨b, f, none⟩) k (cb ((B.drop f).take k)) x := by
    have := rdx_part rfl hp hB'.symm f k (by omega)
    rw [Nat.zero_add] at this; exact this
  refine wk ?_
  (refine CX.boxA (vs := [.int .i64 (f : Int), .int .i64 ((f + k : Nat) : Int)]) ?_; intro q)
  refine wk ?_
  refine CC.draw [(0, 1), (1, 0), (3, 0), (4, 1), (5, 0), (6, 1), (7, 0), (2, 2), (8, 2), (9, 0), (10, 0), (11, 0), (12, 0), (13, 0)] mixed rfl (by kernel_rfl) (by kernel_rfl) [bk q 242 [.int .i64 (f : Int), .int .i64 ((f + k : Nat) : Int)]] ?_
  (apply CH.read; (· rfl); (· apply PS.loadG (vs := [.int .i64 (f : Int), .int .i64 ((f + k : Nat) : Int)]); (· rfl); (· rfl); (· exact CellsAt.all (by first | exact pickA | exact updA)); (· rfl)); (· exact selA))
  refine hwk ?_
  refine CH.chain rfl fun K hK => ?_
  refine CX.callA (spof_c b f k (by omega) h) ?_
  rintro _ _ ⟨rfl, rfl⟩
  (refine CX.nil ?_; refine CQ.thenK ?_; apply hK; (· exact selA); clear hK K)
  refine hwk ?_
  rw [e]
  refine CH.chain rfl fun K hK => ?_
  have cc := nget_c ((B.drop f).take k) (some ⟨b, f, none⟩) k 0 (k : Int) (by omega) (by omega) (by omega)
  rw [hl, e2] at cc
  refine CX.callA (cc) ?_ (hpre := by exact rdx_ex (by first | exact pickA | exact updA) hp2)
  clear cc
  rintro _ _ ⟨rfl, rfl⟩
  (refine CX.nil ?_; refine CQ.thenK ?_; apply hK; (· exact selA); clear hK K)
  refine hwk ?_
  refine wk ?_
  ((apply CQ.end1; (· rfl); (· exact .tmp rfl)); (· exact ⟨rfl, rfl⟩); (· exact selA))
theorem ssum_c (b : Nat) (B : Blk) (hB : WB B) : Ctr Tryz.prog 185 [.pointer (some ⟨b, 0, none⟩)] [] (fun x => rdx (some ⟨b, 0, none⟩) 128 (cb B) x)
    (fun v M => v = .int .u64 ((crcM (B.take 116) : Nat) : Int) ∧ M = []) := by
  have hB' : B.length = 128 := hB
  have hl : (B.take 116).length = 116 := by simp; omega
  have hlt := crc_lt (B.take 116)
  have e : cutAt (some ⟨b, 0, none⟩) 0 116 1 = some ⟨b, 0, none⟩ := by unfold cutAt; simp [addr_add]
  refine Ctr.intro Tryz.func185 rfl Tryz.ntmps185 rfl fun x w hp => ?_
  have hp2 : rdx (some ⟨b, 0, none⟩) 116 (cb (B.take 116)) x := by
    have := rdx_part rfl hp hB'.symm 0 116 (by omega)
    simpa using this
  refine wk ?_
  refine CC.draw [(0, 0), (1, 0), (2, 3), (3, 0), (4, 3), (5, 0), (6, 0), (7, 3), (8, 0), (9, 0)] mixed rfl (by kernel_rfl) (by kernel_rfl) [] ?_
  refine hwk ?_
  refine CH.tail rfl rfl fun K hK => ?_
  refine CX.callA (scheck_c) ?_
  rintro _ _ ⟨rfl, rfl⟩
  (refine CX.nil ?_; refine CQ.thenK ?_; apply hK; clear hK K)
  refine hwk ?_
  refine CH.tail rfl rfl fun K hK => ?_
  refine CX.callA (scheck_c) ?_
  rintro _ _ ⟨rfl, rfl⟩
  (refine CX.nil ?_; refine CQ.thenK ?_; apply hK; clear hK K)
  refine hwk ?_
  (apply CH.pure; (· rfl); (· apply PS.sliceArr3 (l := 0) (h := 116) (m := 116); (· rfl); (· rfl); (· rfl); (· rfl); (· rfl); (· exact .inl ⟨rfl, rfl⟩); (· exact ⟨_, rfl⟩); (· omega); (· omega); (· omega)))
  rw [e]
  refine CH.tail rfl rfl fun K hK => ?_
  have cc := of_c (B.take 116) (by omega) (some ⟨b, 0, none⟩) 116
  rw [hl] at cc
  refine CX.callA (cc) ?_ (hpre := by exact rdx_ex (by first | exact pickA | exact updA) hp2)
  clear cc
  rintro _ _ ⟨rfl, rfl⟩
  (refine CX.nil ?_; refine CQ.thenK ?_; apply hK; clear hK K)
  refine hwk ?_
  refine wk ?_
  ((apply CQ.end1; (· rfl); (· exact .tmp rfl)); (· exact ⟨rfl, rfl⟩); (· exact selA))
theorem sput_c (n : Nat) (hn : n ≤ top) (body : Blk) (hb : body.length ≤ 9223372036854775807) (a : Option Addr) (cap : Nat) : Ctr Tryz.prog 177 [.int .u64 (n : Int), .slice a body.length cap] [] (fun x => rdx a body.length (cb body) x)
    (fun v M => v = .tuple #[.agg (cb (putM n body).1).toArray, .int .i64 (putM n body).2] ∧ M = []) := by
  refine Ctr.intro Tryz.func177 rfl Tryz.ntmps177 rfl fun x w hp => ?_
  refine wk ?_
  (refine CX.allocZ (cb zblk) ?_; intro r)
  refine wk ?_
  by_cases h1 : n = 0
  · have e : putM n body = (zblk, 2) := by unfold putM; rw [if_pos h1]
    rw [e]
    refine wk ?_
    ((apply CX.ps; (· apply PS.loadG (vs := cb (zblk)); (· rfl); (· rfl); (· exact CellsAt.all (by first | exact pickA | exact updA)); (· exact WB_z.len))))
    (apply CX.storeAll; (· rfl); (· rfl); (· rfl); (· first | exact pickA | exact updA); (· exact WB_z.len); (· exact WB_z.len); (· exact one_cb _))
    refine wk ?_
    ((apply CQ.end2; (· rfl); (· exact .cells inferInstance rfl (CellsAt.all (by first | exact pickA | exact updA)) (WB_z.len)); (· exact .tmp rfl)); (· exact ⟨rfl, rfl⟩); (· exact selA))
  by_cases h2 : 108 < body.length
  · have e : putM n body = (zblk, 3) := by unfold putM; rw [if_neg h1, if_pos h2]
    rw [e]
    refine wk ?_
    ((apply CX.ps; (· apply PS.loadG (vs := cb (zblk)); (· rfl); (· rfl); (· exact CellsAt.all (by first | exact pickA | exact updA)); (· exact WB_z.len))))
    (apply CX.storeAll; (· rfl); (· rfl); (· rfl); (· first | exact pickA | exact updA); (· exact WB_z.len); (· exact WB_z.len); (· exact one_cb _))
    refine wk ?_
    ((apply CQ.end2; (· rfl); (· exact .cells inferInstance rfl (CellsAt.all (by first | exact pickA | exact updA)) (WB_z.len)); (· exact .tmp rfl)); (· exact ⟨rfl, rfl⟩); (· exact selA))
  have e : putM n body = (sealB n body, 0) := by unfold putM; rw [if_neg h1, if_neg h2]
  rw [e]
  have hl : body.length ≤ 108 := by omega
  obtain ⟨w1, w2, w3⟩ := seal_WB (n := n) hl
  have w4 := sealB_WB (n := n) hl
  have hlt := crc_lt ((seal2 n body).take 116)
  refine wk ?_
  refine CX.callA (sbegin_c) ?_
  rintro _ _ ⟨rfl, rfl⟩
  refine wk ?_
  refine CX.callA (spput_c r 59 0 8 n zblk WB_z (by omega) (by omega) (by simp only [top] at hn; omega)) ?_
  rintro _ _ ⟨rfl, rfl⟩
  rw [show ins zblk 0 (le 8 n) = seal1 n from rfl]
  refine wk ?_
  refine CX.callA (sinner_c) ?_
  rintro _ _ ⟨rfl, rfl⟩
  refine wk ?_
  refine CX.callA (spof_c r 8 108 (by omega) (by omega)) ?_
  rintro _ _ ⟨rfl, rfl⟩
  refine wk ?_
  apply CX.copyBk (m := body.length) (news := cb body)
  · rfl
  · rfl
  · rfl
  · exact RdS.rdx (by first | exact pickA | exact updA) hp rfl
  · first | exact pickA | exact updA
  · exact (Nat.min_eq_left (by omega)).symm
  · have := w1.len; omega
  rw [List.take_of_length_le (by simp), cb_setL, show (seal1 n).take 8 ++ (body ++ (seal1 n).drop (8 + body.length)) = seal2 n body from rfl]
  refine wk ?_
  refine CX.callA (scheck_c) ?_
  rintro _ _ ⟨rfl, rfl⟩
  refine wk ?_
  have hw2 : (seal2 n body).length = 128 := w2
  refine CX.callA (ssum_c r (seal2 n body) w2) ?_ (hpre := by exact fun y hy => by have := rdx_bk (L := _) (t := 59) (b := r) (B := seal2 n body) (by first | exact pickA | exact updA) 0 128 (by omega) y hy; rwa [List.drop_zero, List.take_of_length_le (by omega)] at this)
  rintro _ _ ⟨rfl, rfl⟩
  refine wk ?_
  refine CX.callA (spput_c r 59 116 4 (crcM ((seal2 n body).take 116)) (seal2 n body) w2 (by omega) (by omega) hlt) ?_
  rintro _ _ ⟨rfl, rfl⟩
  rw [show ins (seal2 n body) 116 (le 4 (crcM ((seal2 n body).take 116))) = seal3 n body from rfl]
  refine wk ?_
  refine CX.callA (send_c) ?_
  rintro _ _ ⟨rfl, rfl⟩
  refine wk ?_
  refine CX.ps (PS.not64 n hn rfl rfl) ?_
  refine CX.callA (spput_c r 59 120 8 (18446744073709551615 - n) (seal3 n body) w3 (by omega) (by omega) (by omega)) ?_
  rintro _ _ ⟨rfl, rfl⟩
  rw [show 18446744073709551615 - n = top - n from rfl, seal4_eq hl]
  refine wk ?_
  ((apply CX.ps; (· apply PS.loadG (vs := cb (sealB n body)); (· rfl); (· rfl); (· exact CellsAt.all (by first | exact pickA | exact updA)); (· exact w4.len))))
  (apply CX.storeAll; (· rfl); (· rfl); (· rfl); (· first | exact pickA | exact updA); (· exact w4.len); (· exact w4.len); (· exact one_cb _))
  refine wk ?_
  ((apply CQ.end2; (· rfl); (· exact .cells inferInstance rfl (CellsAt.all (by first | exact pickA | exact updA)) (w4.len)); (· exact .tmp rfl)); (· exact ⟨rfl, rfl⟩); (· exact selA))
end Go.Proofs.YtlckhaodecdbbaaGreatDoor
/-! The journal in plain Lean: a batch's blocks, what is laid, what is read. No program in sight. -/
namespace Go.Cx
/-- Bytes in blocks, 0s behind them. -/
def chopB (R : Blk) : List Blk := (List.range ((R.length + 127) / 128)).map fun i => padB 128 ((R.drop (i * 128)).take 128)
def cutB (b : Blk) : List Blk := chopB (rowB b)
theorem chop_len (R : Blk) : (chopB R).length = (R.length + 127) / 128 := by simp [chopB]
theorem chop_WB (R : Blk) : ∀ b ∈ chopB R, WB b := fun b hb => by
  simp only [chopB, List.mem_map] at hb
  obtain ⟨i, _, rfl⟩ := hb
  exact padB_len (by simp; omega)
theorem chop_at (R : Blk) (k : Nat) (h : k < (chopB R).length) : (chopB R)[k] = padB 128 ((R.drop (k * 128)).take 128) := by simp [chopB]
theorem rowB_length (b : Blk) : (rowB b).length = 4 + b.length := by simp [rowB]
theorem cut_len (b : Blk) : (cutB b).length = (b.length + 131) / 128 := by
  unfold cutB; rw [chop_len, rowB_length]; congr 1; omega
/-- A journal's number and head. -/
structure JM where
  n : Nat
  h : HdM
def bankM (D : DS) : Nat := (D.sure.length - 2) / 2
def firstM (D : DS) (b : Nat) : Nat := 2 + b * bankM D
def bothM (D : DS) : Blk × Blk × Int := if (D.read 0).2 ≠ 0 then ((D.read 0).1, zblk, (D.read 0).2) else ((D.read 0).1, (D.read 1).1, (D.read 1).2)
def markM (J : JM) (h : HdM) (D : DS) : Int × DS :=
  if (bothM D).2.2 ≠ 0 then ((bothM D).2.2, D) else if (putH (J.n + 1) h).2 ≠ 0 then ((putH (J.n + 1) h).2, D) else D.write (nextM (bothM D).1 (bothM D).2.1) (putH (J.n + 1) h).1
/-- Steps, up to the first one that is refused. -/
def runM : List (DS → Int × DS) → DS → Int × DS
  | [], D => (0, D)
  | f :: l, D => if (f D).1 ≠ 0 then f D else runM l (f D).2
def writesM (at_ : Nat) (l : List Blk) : List (DS → Int × DS) := (List.range l.length).map fun (i : Nat) (D : DS) => D.write ((at_ : Int) + (i : Int)) (l.getD i [])
def layS (J : JM) (at_ : Nat) (l : List Blk) (h : HdM) : List (DS → Int × DS) := writesM at_ l ++ [DS.flush, markM J h, DS.flush]
def layM (J : JM) (at_ : Nat) (l : List Blk) (h : HdM) (D : DS) : Int × JM × DS :=
  if (runM (layS J at_ l h) D).1 ≠ 0 then ((runM (layS J at_ l h) D).1, J, (runM (layS J at_ l h) D).2) else (0, ⟨J.n + 1, h⟩, (runM (layS J at_ l h) D).2)
theorem wf_up {D : DS} {N M : Nat} (h : D.wf N) (k : N ≤ M) : D.wf M := ⟨h.lo, h.hi, h.wb, h.lb, h.left0, h.left1, by have := h.steps; omega, by have := h.loose; omega⟩
theorem lit_lt {D : DS} {n : Int} (h : D.lit n = 0) : n.toNat < D.sure.length := by
  unfold DS.lit DS.there errOf at h
  split at h
  · cases h
  · split at h
    · omega
    · cases h
theorem stepM_wf {D : DS} {N : Nat} (h : D.wf N) : D.step.2.wf (N + 1) := by
  have h1 := h.left0; have h2 := h.left1; have h3 := h.steps; have h4 := h.loose
  unfold DS.step
  split
  · exact ⟨h.lo, h.hi, h.wb, h.lb, h1, h2, by simp; omega, by simp; omega⟩
  · exact ⟨h.lo, h.hi, h.wb, h.lb, by simp; omega, by simp; omega, by simp; omega, by simp; omega⟩
theorem step_sure (D : DS) : D.step.2.sure = D.sure ∧ D.step.2.loose = D.loose := by unfold DS.step; split <;> exact ⟨rfl, rfl⟩
theorem write_wf {D : DS} {N : Nat} (h : D.wf N) (n : Int) {b : Blk} (hb : WB b) : (D.write n b).2.wf (N + 1) := by
  unfold DS.write
  split
  · exact wf_up h (by omega)
  · rename_i hl
    have hl' : D.lit n = 0 := by omega
    split
    · have hs := stepM_wf h
      have e := step_sure D
      refine ⟨hs.lo, hs.hi, hs.wb, fun p hp => ?_, hs.left0, hs.left1, hs.steps, ?_⟩
      · dsimp only at hp ⊢
        rcases List.mem_append.1 hp with hp | hp
        · exact hs.lb p hp
        · obtain rfl := List.mem_singleton.1 hp
          rw [e.1]; exact ⟨lit_lt hl', hb⟩
      · dsimp only
        rw [e.2, List.length_append, List.length_singleton]
        have := h.loose; omega
    · exact stepM_wf h
theorem flush_wf {D : DS} {N : Nat} (h : D.wf N) : D.flush.2.wf (N + 1) := by
  unfold DS.flush
  split
  · exact wf_up h (by omega)
  · split
    · exact settle_wf (stepM_wf h) [] 128
    · exact stepM_wf h
theorem putH_WB (n : Nat) (h : HdM) : WB (putH n h).1 := by
  unfold putH; split
  · exact WB_z
  · exact sealB_WB (by rw [bytes_len]; omega)
theorem mark_wf {J : JM} {k : HdM} {D : DS} {N : Nat} (h : D.wf N) : (markM J k D).2.wf (N + 1) := by
  unfold markM
  split
  · exact wf_up h (by omega)
  · split
    · exact wf_up h (by omega)
    · exact write_wf h _ (putH_WB _ _)
/-! ### What is read -/
def rdAll (D : DS) (f : Nat) : Nat → Nat → Blk → Blk × Int
  | _, 0, acc => (acc, 0)
  | i, n + 1, acc => if (D.read ((f : Int) + (i : Int))).2 ≠ 0 then ([], (D.read ((f : Int) + (i : Int))).2) else rdAll D f (i + 1) n (acc ++ (D.read ((f : Int) + (i : Int))).1)
def upB (n : Nat) : Nat := (n + 127) / 128 * 128
def parseM : Nat → List Blk → Blk → List Blk × Int
  | 0, l, all => if 0 < all.length then ([], 5) else (l, 0)
  | k + 1, l, all =>
    if (Cx.rowAt all 0 1048576).2.2 ≠ 0 then ([], 5)
    else if ∃ c ∈ (all.drop (Cx.rowAt all 0 1048576).2.1).take (upB (Cx.rowAt all 0 1048576).2.1 - (Cx.rowAt all 0 1048576).2.1), c ≠ 0 then ([], 5)
    else parseM k (l ++ [(Cx.rowAt all 0 1048576).1]) (all.drop (upB (Cx.rowAt all 0 1048576).2.1))
def readM (J : JM) (D : DS) : List Blk × Int :=
  if bankM D < J.h.blocks then ([], 5)
  else if (rdAll D (firstM D J.h.bank) 0 J.h.blocks []).2 ≠ 0 then ([], (rdAll D (firstM D J.h.bank) 0 J.h.blocks []).2)
  else parseM J.h.batches [] (rdAll D (firstM D J.h.bank) 0 J.h.blocks []).1
/-! ### The methods -/
def askedM (D : DS) (b : Blk) : List Blk × Int := if 1048576 < b.length then ([], 3) else if D.dark then ([], 9) else (cutB b, 0)
def appendM (J : JM) (D : DS) (b : Blk) : Int × JM × DS :=
  if (askedM D b).2 ≠ 0 then ((askedM D b).2, J, D)
  else if (bankM D : Int) - (J.h.blocks : Int) < ((askedM D b).1.length : Int) then (10, J, D)
  else layM J (firstM D J.h.bank + J.h.blocks) (askedM D b).1 ⟨J.h.bank, J.h.blocks + (askedM D b).1.length, J.h.batches + 1⟩ D
def replaceM (J : JM) (D : DS) (b : Blk) : Int × JM × DS :=
  if (askedM D b).2 ≠ 0 then ((askedM D b).2, J, D)
  else if bankM D < (askedM D b).1.length then (10, J, D)
  else layM J (firstM D (1 - J.h.bank)) (askedM D b).1 ⟨1 - J.h.bank, (askedM D b).1.length, 1⟩ D
def makeM (D : DS) : Int × JM × DS := layM ⟨0, HdM.z⟩ 0 [zblk, zblk] HdM.z D
def openM (D : DS) : Int × JM :=
  if (bothM D).2.2 ≠ 0 then ((bothM D).2.2, ⟨0, HdM.z⟩)
  else if (newH (bothM D).1 (bothM D).2.1).2.2 ≠ 0 ∨ 2305843009213693952 < (newH (bothM D).1 (bothM D).2.1).1 then (5, ⟨0, HdM.z⟩)
  else ((readM ⟨(newH (bothM D).1 (bothM D).2.1).1, (newH (bothM D).1 (bothM D).2.1).2.1⟩ D).2, ⟨(newH (bothM D).1 (bothM D).2.1).1, (newH (bothM D).1 (bothM D).2.1).2.1⟩)
theorem asked_len (D : DS) (b : Blk) : (askedM D b).1.length ≤ 8194 := by
  unfold askedM
  split
  · simp
  · split
    · simp
    · rename_i h _; dsimp only; rw [cut_len]; omega
theorem asked_WB (D : DS) (b : Blk) : ∀ x ∈ (askedM D b).1, WB x := by
  unfold askedM
  split
  · intro x hx; cases hx
  · split
    · intro x hx; cases hx
    · exact chop_WB _
end Go.Cx
/-! The journal in plain Lean: what is laid is read. No program in sight. -/
namespace Go.Cx
/-! ### Cut, and read again -/
theorem chop_nil : chopB [] = [] := rfl
theorem chop_cons {R : Blk} (h : 0 < R.length) : chopB R = padB 128 (R.take 128) :: chopB (R.drop 128) := by
  unfold chopB
  rw [show (R.length + 127) / 128 = ((R.drop 128).length + 127) / 128 + 1 by simp; omega, List.range_succ_eq_map, List.map_cons, List.map_map]
  simp only [Nat.zero_mul, List.drop_zero]
  congr 1
  apply List.map_congr_left
  intro i _
  simp only [Function.comp]
  rw [List.drop_drop, show 128 + i * 128 = (i + 1) * 128 by omega]
theorem chop_flat : ∀ (m : Nat) (R : Blk), R.length ≤ m → (chopB R).flatten = R ++ List.replicate (upB R.length - R.length) 0
  | 0, R, h => by
    obtain rfl : R = [] := List.length_eq_zero_iff.1 (by omega)
    simp [chop_nil, upB]
  | m + 1, R, h => by
    by_cases h0 : 0 < R.length
    · rw [chop_cons h0, List.flatten_cons, chop_flat m _ (by simp; omega)]
      by_cases h1 : R.length ≤ 128
      · have e1 : R.drop 128 = [] := List.drop_of_length_le h1
        have e2 : R.take 128 = R := List.take_of_length_le h1
        rw [e1, e2]
        simp only [padB, List.nil_append, List.length_nil, upB]
        rw [show (R.length + 127) / 128 * 128 - R.length = 128 - R.length by omega]
        simp
      · have e2 : padB 128 (R.take 128) = R.take 128 := by
          have : (R.take 128).length = 128 := by simp; omega
          unfold padB; rw [this]; simp
        rw [e2, ← List.append_assoc, List.take_append_drop]
        congr 2
        simp only [List.length_drop, upB]; omega
    · obtain rfl : R = [] := List.length_eq_zero_iff.1 (by omega)
      simp [chop_nil, upB]
theorem cut_flat (b : Blk) : (cutB b).flatten = rowB b ++ List.replicate (upB (4 + b.length) - (4 + b.length)) 0 := by
  have := chop_flat _ (rowB b) (Nat.le_refl _)
  rw [rowB_length] at this; exact this
def Cut (bs : List Blk) : List Blk := (bs.map cutB).flatten
theorem Cut_snoc (bs : List Blk) (b : Blk) : Cut (bs ++ [b]) = Cut bs ++ cutB b := by simp [Cut]
theorem Cut_one (b : Blk) : Cut [b] = cutB b := by simp [Cut]
theorem Cut_cons (b : Blk) (bs : List Blk) : Cut (b :: bs) = cutB b ++ Cut bs := by simp [Cut]
theorem cut_pos (b : Blk) : 1 ≤ (cutB b).length := by rw [cut_len]; omega
theorem upB_ge' (n : Nat) : n ≤ upB n := by unfold upB; omega
theorem parse_print : ∀ (bs l : List Blk), (∀ b ∈ bs, b.length ≤ 1048576) → parseM bs.length l (Cut bs).flatten = (l ++ bs, 0)
  | [], l, _ => by simp [parseM, Cut]
  | b :: bs, l, h => by
    have hb := h b (by simp)
    have e : (Cut (b :: bs)).flatten = rowB b ++ (List.replicate (upB (4 + b.length) - (4 + b.length)) 0 ++ (Cut bs).flatten) := by
      rw [Cut_cons, List.flatten_append, cut_flat, List.append_assoc]
    have hr : Cx.rowAt (Cut (b :: bs)).flatten 0 1048576 = (b, 0 + 4 + b.length, 0) := rowAt_print (by omega) (by rw [List.drop_zero]; exact e) hb (by omega)
    have hg := upB_ge' (4 + b.length)
    have e1 : (Cut (b :: bs)).flatten.drop (4 + b.length) = List.replicate (upB (4 + b.length) - (4 + b.length)) 0 ++ (Cut bs).flatten := by
      rw [e, List.drop_append, List.drop_of_length_le (by rw [rowB_length]; omega), rowB_length]; simp
    have e2 : (Cut (b :: bs)).flatten.drop (upB (4 + b.length)) = (Cut bs).flatten := by
      rw [show upB (4 + b.length) = (4 + b.length) + (upB (4 + b.length) - (4 + b.length)) by omega, ← List.drop_drop, e1, List.drop_append]
      simp
    rw [List.length_cons, parseM, hr]
    simp only [ne_eq, not_true_eq_false, if_false, Nat.zero_add]
    rw [e1, if_neg, e2, parse_print bs _ (fun x hx => h x (by simp [hx]))]
    · simp
    · rintro ⟨c, hc, hn⟩
      rw [List.take_append_of_le_length (by simp)] at hc
      exact hn (List.eq_of_mem_replicate (List.mem_of_mem_take hc))
theorem rdAll_eq {D : DS} {f : Nat} : ∀ (n i : Nat) (acc : Blk) (g : Nat → Blk), (∀ k, i ≤ k → k < i + n → D.read ((f : Int) + (k : Int)) = (g k, 0)) → rdAll D f i n acc = (acc ++ ((List.range' i n).map g).flatten, 0)
  | 0, i, acc, g, _ => by simp [rdAll]
  | n + 1, i, acc, g, h => by
    have h0 := h i (Nat.le_refl _) (by omega)
    rw [rdAll, h0]
    simp only [ne_eq, not_true_eq_false, if_false]
    rw [rdAll_eq n (i + 1) _ g (fun k h1 h2 => h k (by omega) (by omega)), List.range'_succ]
    simp
/-! ### Slots -/
/-- A block that counts less than any sealed one of number m. -/
structure Slot (m : Nat) (X : Blk) : Prop where
  wb : WB X
  beg : ∃ b, b ≤ 60 ∧ X.take 8 = le 8 b
  fin : ∀ j, m ≤ j → j ≤ 60 → X.drop 120 ≠ le 8 (top - j)
theorem Slot.up {m k : Nat} {X : Blk} (h : Slot m X) (hk : m ≤ k) : Slot k X := ⟨h.wb, h.beg, fun j h1 h2 => h.fin j (by omega) h2⟩
theorem le8_inj {a b : Nat} (ha : a ≤ top) (hb : b ≤ top) (e : le 8 a = le 8 b) : a = b := by
  have := congrArg ofLe e
  rwa [ofLe8 ha, ofLe8 hb] at this
theorem Slot.valid {m : Nat} {X : Blk} (h : Slot m X) (v : Valid X) : ofLe (X.take 8) < m := by
  obtain ⟨b, hb, e⟩ := h.beg
  have h1 := v.fin
  have ht : (60 : Nat) ≤ top := by decide
  have eb : ofLe (X.take 8) = b := by rw [e, ofLe8 (by omega)]
  rw [eb] at h1 ⊢
  refine Decidable.byContradiction fun hn => h.fin b (by omega) hb ?_
  have w : X.length = 128 := h.wb
  have := le_ofLe (X.drop 120)
  rw [show (X.drop 120).length = 8 by simp; omega, h1] at this
  exact this.symm
theorem Slot.num {m : Nat} {X : Blk} (h : Slot m X) (hm : 1 ≤ m) : (getM X).1 < m := by
  by_cases v : Valid X
  · rw [get_ok v]; exact h.valid v
  · rw [(get_bad v).1]; omega
theorem getH_num (X : Blk) : (getH X).1 ≤ (getM X).1 := by
  unfold getH
  split
  · exact Nat.zero_le _
  · split
    · exact Nat.zero_le _
    · exact Nat.le_refl _
theorem slot_z {m : Nat} (hm : 1 ≤ m) : Slot m zblk :=
  ⟨WB_z, ⟨0, by omega, by decide⟩, fun j h1 h2 e => by
    have e0 : zblk.drop 120 = le 8 0 := by decide
    rw [e0] at e
    have := le8_inj (by decide) (by omega) e
    simp only [top] at this; omega⟩
theorem slot_seal {n m : Nat} {b : Blk} (hn : n < m) (h60 : n ≤ 60) (hb : b.length ≤ 108) : Slot m (sealB n b) :=
  ⟨sealB_WB hb, ⟨n, h60, sealB_8 n b⟩, fun j h1 h2 e => by
    rw [sealB_120 hb] at e
    have := le8_inj (by omega) (by omega) e
    simp only [top] at this; omega⟩
theorem torn_take {a b : Blk} {n : Nat} (hb : WB b) (hn : n ≤ 128) {k : Nat} (hk : k ≤ n) : (torn a b n).take k = b.take k := by
  unfold torn
  have hb' : b.length = 128 := hb
  rw [List.take_append_of_le_length (by simp; omega), List.take_take, Nat.min_eq_left hk]
theorem torn_drop {a b : Blk} {n : Nat} (hb : WB b) (hn : n ≤ 128) {k : Nat} (hk : n ≤ k) : (torn a b n).drop k = a.drop k := by
  unfold torn
  have hb' : b.length = 128 := hb
  have hl : (b.take n).length = n := by simp; omega
  rw [List.drop_append, List.drop_of_length_le (by omega), hl, List.nil_append, List.drop_drop]
  congr 1; omega
theorem le8_small {b : Nat} (hb : b ≤ 60) : le 8 b = UInt8.ofNat b :: [0, 0, 0, 0, 0, 0, 0] := by
  have : ∀ b, b ≤ 60 → le 8 b = UInt8.ofNat b :: [0, 0, 0, 0, 0, 0, 0] := by decide
  exact this b hb
theorem le8_top {b : Nat} (hb : b ≤ 60) : le 8 (top - b) = UInt8.ofNat (255 - b) :: [255, 255, 255, 255, 255, 255, 255] := by
  have : ∀ b, b ≤ 60 → le 8 (top - b) = UInt8.ofNat (255 - b) :: [255, 255, 255, 255, 255, 255, 255] := by decide
  exact this b hb
/-- Of a block of number m a beginning is written over one that counts less. -/
theorem slot_torn {m0 m : Nat} {X h : Blk} (hs : Slot m0 X) (h60 : m ≤ 60) (hh : h.length ≤ 108) {n : Nat} (hn : n ≤ 128) : torn X (sealB m h) n = sealB m h ∨ Slot m0 (torn X (sealB m h) n) := by
  have hw := sealB_WB (n := m) hh
  have hw' : (sealB m h).length = 128 := hw
  have hX : X.length = 128 := hs.wb
  obtain ⟨b, hb, eb⟩ := hs.beg
  by_cases h120 : n ≤ 120
  · right
    refine ⟨torn_len hs.wb hw, ?_, fun j h1 h2 => ?_⟩
    · by_cases h0 : n = 0
      · subst h0; refine ⟨b, hb, ?_⟩; unfold torn; simpa using eb
      · refine ⟨m, h60, ?_⟩
        by_cases h8 : 8 ≤ n
        · rw [torn_take hw hn h8, sealB_8]
        · have e1 : (torn X (sealB m h) n).take 8 = (sealB m h).take n ++ (X.take 8).drop n := by
            unfold torn
            rw [List.take_append, List.take_of_length_le (by simp; omega), List.drop_take]
            simp only [List.length_take, hw', show min n 128 = n by omega]
          have e2 : (sealB m h).take n = (le 8 m).take n := by rw [← sealB_8 m h, List.take_take, Nat.min_eq_left (by omega)]
          rw [e1, e2, eb, le8_small hb, le8_small h60]
          have h0' : n = 1 ∨ n = 2 ∨ n = 3 ∨ n = 4 ∨ n = 5 ∨ n = 6 ∨ n = 7 := by omega
          rcases h0' with rfl | rfl | rfl | rfl | rfl | rfl | rfl <;> rfl
    · rw [torn_drop hw hn h120]; exact hs.fin j h1 h2
  · by_cases he : (torn X (sealB m h) n).drop 120 = le 8 (top - m)
    · left
      have e1 := torn_take (a := X) hw hn (show 120 ≤ n by omega)
      rw [← List.take_append_drop 120 (torn X (sealB m h) n), e1, he, ← sealB_120 (n := m) hh, List.take_append_drop]
    · right
      refine ⟨torn_len hs.wb hw, ⟨m, h60, by rw [torn_take hw hn (by omega), sealB_8]⟩, fun j h1 h2 e => ?_⟩
      by_cases hj : j = m
      · subst hj; exact he e
      · have e1 := torn_take (a := X) hw hn (show 121 ≤ n by omega)
        have e2 := congrArg (fun l : Blk => l.drop 120) e1
        simp only [List.drop_take, sealB_120 hh, e, le8_top h2, le8_top h60] at e2
        simp at e2
        have e3 := congrArg UInt8.toNat e2
        simp at e3
        omega
/-! ### What stands on a disk -/
def bankS (S : List Blk) : Nat := (S.length - 2) / 2
def firstS (S : List Blk) (b : Nat) : Nat := 2 + b * bankS S
structure JSt (S : List Blk) (J : JM) (bs : List Blk) : Prop where
  lo : 64 ≤ S.length
  hi : S.length ≤ 4096
  wb : ∀ b ∈ S, WB b
  n1 : 1 ≤ J.n
  n2 : J.n ≤ 60
  may : J.h.may
  blocks : J.h.blocks = (Cut bs).length
  batches : J.h.batches = bs.length
  room : J.h.blocks ≤ bankS S
  sz : ∀ b ∈ bs, b.length ≤ 1048576
  cnt : ∀ i, i < J.h.blocks → S.getD (firstS S J.h.bank + i) [] = (Cut bs).getD i []
  heads : ∃ s, s < 2 ∧ S.getD s [] = (putH J.n J.h).1 ∧ Slot J.n (S.getD (1 - s) [])
/-- What counts. -/
def Live (S : List Blk) (J : JM) (k : Nat) : Prop := k < 2 ∨ (firstS S J.h.bank ≤ k ∧ k < firstS S J.h.bank + J.h.blocks)
theorem JSt.congr {S S' : List Blk} {J : JM} {bs : List Blk} (h : JSt S J bs) (hl : S'.length = S.length) (hw : ∀ b ∈ S', WB b) (he : ∀ k, Live S J k → S'.getD k [] = S.getD k []) : JSt S' J bs := by
  have hb : bankS S' = bankS S := by unfold bankS; rw [hl]
  have hf : ∀ b, firstS S' b = firstS S b := fun b => by unfold firstS; rw [hb]
  obtain ⟨s, h1, h2, h3⟩ := h.heads
  refine ⟨by rw [hl]; exact h.lo, by rw [hl]; exact h.hi, hw, h.n1, h.n2, h.may, h.blocks, h.batches, by rw [hb]; exact h.room, h.sz, fun i hi => ?_, s, h1, ?_, ?_⟩
  · rw [hf, he _ (.inr ⟨by omega, by omega⟩)]; exact h.cnt i hi
  · rw [he s (.inl h1)]; exact h2
  · rw [he (1 - s) (.inl (by omega))]; exact h3
theorem putH_ok {n : Nat} {h : HdM} (h1 : 1 ≤ n) (h2 : n ≤ 60) (hm : h.may) : putH n h = (sealB n h.bytes, 0) := by
  unfold putH; rw [if_neg]
  rintro (a | a | a)
  · omega
  · unfold most at a; omega
  · exact a hm
theorem JSt.newest {S : List Blk} {J : JM} {bs : List Blk} (h : JSt S J bs) : newH (S.getD 0 []) (S.getD 1 []) = (J.n, J.h, 0) ∧ ∃ s : Nat, s < 2 ∧ nextM (S.getD 0 []) (S.getD 1 []) = ((1 - s : Nat) : Int) ∧ S.getD s [] = (putH J.n J.h).1 ∧ Slot J.n (S.getD (1 - s) []) := by
  obtain ⟨s, h1, h2, h3⟩ := h.heads
  have hp := putH_ok h.n1 h.n2 h.may
  have hg : getH (sealB J.n J.h.bytes) = (J.n, J.h, 0) := by
    have := (get_put (n := J.n) (h := J.h) (by rw [hp])).2.2.2.2; rwa [hp] at this
  have hm : (getM (sealB J.n J.h.bytes)).1 = J.n := by rw [get_sealB h.n1 (Nat.le_trans h.n2 (by decide)) (by rw [bytes_len]; omega)]
  have hn := h3.num h.n1
  have hn2 := getH_num (S.getD (1 - s) [])
  have h1' := h.n1
  rw [hp] at h2
  dsimp only at h2
  refine ⟨?_, s, h1, ?_, by rw [hp]; exact h2, h3⟩
  · match s, h1 with
    | 0, _ =>
      rw [newH_eq, h2, hg, if_neg (by simp), if_neg (by simp only [Nat.sub_zero] at hn2 hn; omega)]
    | 1, _ =>
      rw [newH_eq, h2, hg, if_neg (by simp), if_pos (by simp only [Nat.sub_self] at hn2 hn; omega)]
  · match s, h1 with
    | 0, _ =>
      unfold nextM
      simp only [Nat.sub_zero] at hn
      rw [h2, hm, if_neg (by omega), if_neg (by omega)]; rfl
    | 1, _ =>
      unfold nextM
      simp only [Nat.sub_self] at hn
      rw [h2, hm, if_neg (by omega), if_pos (by omega)]; rfl
/-- A disk on which no write is under way, in the light. -/
structure Calm (D : DS) : Prop where
  lit : D.dark = false
  loose : D.loose = []
theorem Calm.litAt {D : DS} (h : Calm D) {k : Nat} (hk : k < D.sure.length) : D.lit (k : Int) = 0 := by
  unfold DS.lit DS.there errOf
  rw [h.lit, if_neg (by simp), if_pos (by omega)]
theorem Calm.read {D : DS} (h : Calm D) {k : Nat} (hk : k < D.sure.length) : D.read (k : Int) = (D.sure.getD k [], 0) := by
  unfold DS.read
  rw [h.litAt hk, if_neg (by simp)]
  simp [DS.get, h.loose]
theorem Calm.both {D : DS} (h : Calm D) (hl : 64 ≤ D.sure.length) : bothM D = (D.sure.getD 0 [], D.sure.getD 1 [], 0) := by
  unfold bothM
  have h0 := h.read (k := 0) (by omega)
  have h1 := h.read (k := 1) (by omega)
  simp only [Int.ofNat_zero, Int.ofNat_one] at h0 h1
  rw [h0, h1]; simp
theorem bank_eq (D : DS) : bankM D = bankS D.sure := rfl
theorem first_eq (D : DS) (b : Nat) : firstM D b = firstS D.sure b := rfl
theorem first_le {S : List Blk} {b i : Nat} (h64 : 64 ≤ S.length) (hb : b < 2) (hi : i < bankS S) : firstS S b + i < S.length := by
  unfold firstS bankS at *
  have : b = 0 ∨ b = 1 := by omega
  rcases this with rfl | rfl <;> omega
theorem JSt.read {D : DS} {J : JM} {bs : List Blk} (h : JSt D.sure J bs) (c : Calm D) : readM J D = (bs, 0) := by
  have hr := h.room
  unfold readM
  rw [bank_eq, first_eq, if_neg (by omega)]
  have e := rdAll_eq (D := D) (f := firstS D.sure J.h.bank) J.h.blocks 0 [] (fun i => (Cut bs).getD i []) (fun k _ hk => by
    have hlt := first_le h.lo h.may.1 (i := k) (by omega)
    have := c.read hlt
    rw [show ((firstS D.sure J.h.bank : Nat) : Int) + (k : Int) = ((firstS D.sure J.h.bank + k : Nat) : Int) by omega, this, h.cnt k (by omega)])
  have e2 : (List.range' 0 J.h.blocks).map (fun i => (Cut bs).getD i []) = Cut bs := by
    apply List.ext_getElem
    · simp [h.blocks]
    · intro i h1 h2
      simp [h2]
  rw [e2] at e
  rw [e]
  simp only [ne_eq, not_true_eq_false, if_false, List.nil_append]
  rw [h.batches, parse_print bs [] h.sz]; rfl
theorem JSt.opens {D : DS} {J : JM} {bs : List Blk} (h : JSt D.sure J bs) (c : Calm D) : openM D = (0, J) := by
  unfold openM
  rw [c.both h.lo]
  simp only [ne_eq, not_true_eq_false, if_false]
  rw [h.newest.1]
  have hn := h.n2
  simp only [not_true_eq_false, false_or]
  rw [if_neg (by omega), show (⟨J.n, J.h⟩ : JM) = J from rfl, h.read c]
end Go.Cx
/-! The journal in plain Lean: what is laid, wherever the power is cut. No program in sight. -/
namespace Go.Cx
theorem settleL_ne (picks : List Int) (o k : Nat) : ∀ (l : List (Nat × Blk)) (S : List Blk) (i : Nat), (∀ p ∈ l, p.1 ≠ k) → (settleL S picks o i l).getD k [] = S.getD k []
  | [], _, _, _ => rfl
  | p :: l, S, i, h => by
    simp only [settleL]
    rw [settleL_ne picks o k l _ _ (fun q hq => h q (by simp [hq]))]
    simp [List.getD, List.getElem?_set_ne (h p (by simp))]
theorem JSt.settled {S : List Blk} {J : JM} {bs : List Blk} (h : JSt S J bs) {l : List (Nat × Blk)} (hl : ∀ p ∈ l, ¬ Live S J p.1 ∧ p.1 < S.length ∧ WB p.2) (picks : List Int) (o i : Nat) : JSt (settleL S picks o i l) J bs :=
  h.congr (length_settleL _ _ _ _ _) (settleL_WB _ _ _ _ _ h.wb fun p hp => ⟨(hl p hp).2.1, (hl p hp).2.2⟩) fun k hk => settleL_ne picks o k l S i fun p hp e => (hl p hp).1 (by rw [e]; exact hk)
theorem torn128 {a b : Blk} (ha : WB a) (hb : WB b) : torn a b 128 = b := by
  unfold torn; rw [List.take_of_length_le (by rw [hb]; omega), List.drop_of_length_le (by rw [ha]; omega)]; simp
theorem settle_puts (S : List Blk) (at_ : Nat) (l : List Blk) (hS : ∀ b ∈ S, WB b) (hl : ∀ b ∈ l, WB b) (hat : at_ + l.length ≤ S.length) (k : Nat) : ∀ (m : Nat), m ≤ l.length →
    (settleL S [] 128 0 ((List.range m).map fun i => (at_ + i, l.getD i []))).getD k [] = if at_ ≤ k ∧ k < at_ + m then l.getD (k - at_) [] else S.getD k []
  | 0, _ => by rw [if_neg (by omega)]; rfl
  | m + 1, hm => by
    have ih := settle_puts S at_ l hS hl hat k m (by omega)
    have hw := settleL_WB [] 128 ((List.range m).map fun i => (at_ + i, l.getD i [])) S 0 hS (fun p hp => by
      simp only [List.mem_map, List.mem_range] at hp
      obtain ⟨i, hi, rfl⟩ := hp
      exact ⟨by dsimp only; omega, getD_WB hl (by omega)⟩)
    have hlen := length_settleL [] 128 ((List.range m).map fun i => (at_ + i, l.getD i [])) S 0
    rw [List.range_succ, List.map_append, List.map_cons, List.map_nil, settleL_snoc]
    simp only [pickAt, List.getElem?_nil]
    rw [torn128 (getD_WB hw (by omega)) (getD_WB hl (by omega))]
    by_cases e : k = at_ + m
    · subst e
      rw [if_pos (by omega), Nat.add_sub_cancel_left]
      have : at_ + m < (settleL S [] 128 0 ((List.range m).map fun i => (at_ + i, l.getD i []))).length := by omega
      rw [List.getD_eq_getElem?_getD, List.getElem?_set_self this]; rfl
    · have : ∀ (T : List Blk) (x : Blk), (T.set (at_ + m) x).getD k [] = T.getD k [] := fun T x => by simp [List.getD, List.getElem?_set_ne (Ne.symm e)]
      rw [this, ih]
      by_cases h1 : at_ ≤ k ∧ k < at_ + m
      · rw [if_pos h1, if_pos (by omega)]
      · rw [if_neg h1, if_neg (by omega)]
/-- What laying asks, and comes to. -/
structure LayOk (S : List Blk) (J : JM) (at_ : Nat) (l : List Blk) (h : HdM) (bs : List Blk) : Prop where
  wl : ∀ b ∈ l, WB b
  hi : at_ + l.length ≤ S.length
  free : ∀ k, at_ ≤ k → k < at_ + l.length → ¬ Live S J k
  n2 : J.n ≤ 59
  may : h.may
  blocks : h.blocks = (Cut bs).length
  batches : h.batches = bs.length
  room : h.blocks ≤ bankS S
  sz : ∀ b ∈ bs, b.length ≤ 1048576
  cnt : ∀ i, i < h.blocks → (if at_ ≤ firstS S h.bank + i ∧ firstS S h.bank + i < at_ + l.length then l.getD (firstS S h.bank + i - at_) [] else S.getD (firstS S h.bank + i) []) = (Cut bs).getD i []
theorem step_two (D : DS) : (D.left ≠ 0 ∧ D.step = (9, { D with dark := true })) ∨ (D.step = (0, { D with left := max (D.left - 1) 0, steps := D.steps + 1 })) := by
  unfold DS.step
  by_cases h : D.left = 1
  · rw [if_pos h]; exact .inl ⟨by omega, rfl⟩
  · rw [if_neg h]; exact .inr rfl
structure Wrote (S : List Blk) (at_ : Nat) (l : List Blk) (i : Nat) (D0 D : DS) : Prop where
  lit : D.dark = false
  sure : D.sure = S
  loose : D.loose = (List.range i).map fun j => (at_ + j, l.getD j [])
  left : D0.left = 0 → D.left = 0
theorem run_writes {S : List Blk} {at_ : Nat} {l : List Blk} (hi : at_ + l.length ≤ S.length) (D0 : DS) (rest : List (DS → Int × DS)) : ∀ (m i : Nat) (D : DS), i + m = l.length → Wrote S at_ l i D0 D →
    (∃ D', Wrote S at_ l l.length D0 D' ∧ runM (((List.range' i m).map fun (j : Nat) (D : DS) => D.write ((at_ : Int) + (j : Int)) (l.getD j [])) ++ rest) D = runM rest D') ∨
    (∃ D' k, k ≤ l.length ∧ D0.left ≠ 0 ∧ D'.dark = true ∧ D'.sure = S ∧ D'.loose = ((List.range k).map fun j => (at_ + j, l.getD j [])) ∧ runM (((List.range' i m).map fun (j : Nat) (D : DS) => D.write ((at_ : Int) + (j : Int)) (l.getD j [])) ++ rest) D = (9, D'))
  | 0, i, D, h, w => .inl ⟨D, by rw [Nat.add_zero] at h; rw [← h]; exact w, by simp⟩
  | m + 1, i, D, h, w => by
    have hlit : D.lit ((at_ : Int) + (i : Int)) = 0 := by
      unfold DS.lit DS.there errOf
      rw [w.lit, if_neg (by simp), if_pos (by rw [w.sure]; omega)]
    rw [List.range'_succ, List.map_cons, List.cons_append, runM]
    rcases step_two D with ⟨h1, h2⟩ | h2
    · right
      have e : D.write ((at_ : Int) + (i : Int)) (l.getD i []) = (9, { D with dark := true }) := by
        unfold DS.write; rw [hlit, h2]; simp
      refine ⟨{ D with dark := true }, i, by omega, fun h0 => h1 (w.left h0), rfl, w.sure, w.loose, ?_⟩
      rw [e]; simp
    · have e : D.write ((at_ : Int) + (i : Int)) (l.getD i []) = (0, { D with left := max (D.left - 1) 0, steps := D.steps + 1, loose := D.loose ++ [(at_ + i, l.getD i [])] }) := by
        unfold DS.write; rw [hlit, h2]; simp
        omega
      rw [e]
      simp only [ne_eq, not_true_eq_false, if_false]
      exact run_writes hi D0 rest m (i + 1) _ (by omega) ⟨w.lit, w.sure, by simp [w.loose, List.range_succ], fun h0 => by have := w.left h0; dsimp only; omega⟩
/-- A head is written over the slot that counts less. -/
theorem head_new {S : List Blk} {J : JM} {bs : List Blk} {h : HdM} {bs' : List Blk} {s : Nat} (j : JSt S J bs) (hs : s < 2) (h1 : S.getD s [] = (putH J.n J.h).1) (h2 : Slot J.n (S.getD (1 - s) [])) (n2 : J.n ≤ 59)
    (may : h.may) (blocks : h.blocks = (Cut bs').length) (batches : h.batches = bs'.length) (room : h.blocks ≤ bankS S) (sz : ∀ b ∈ bs', b.length ≤ 1048576)
    (cnt : ∀ i, i < h.blocks → S.getD (firstS S h.bank + i) [] = (Cut bs').getD i []) {n : Nat} (hn : n ≤ 128) :
    (JSt (S.set (1 - s) (torn (S.getD (1 - s) []) (putH (J.n + 1) h).1 n)) J bs ∨ JSt (S.set (1 - s) (torn (S.getD (1 - s) []) (putH (J.n + 1) h).1 n)) ⟨J.n + 1, h⟩ bs') ∧
    (n = 128 → JSt (S.set (1 - s) (torn (S.getD (1 - s) []) (putH (J.n + 1) h).1 n)) ⟨J.n + 1, h⟩ bs') := by
  have hp := putH_ok (n := J.n + 1) (h := h) (by omega) (by omega) may
  have hp0 := putH_ok (n := J.n) (h := J.h) j.n1 j.n2 j.may
  have lo := j.lo
  have hb9 : h.bytes.length ≤ 108 := by rw [bytes_len]; omega
  rw [hp]
  dsimp only
  have key := slot_torn (m := J.n + 1) h2 (by omega) hb9 hn
  have wl : ∀ X, WB X → ∀ b ∈ S.set (1 - s) X, WB b := fun X hX b hb => by
    rcases List.mem_or_eq_of_mem_set hb with hb | rfl
    · exact j.wb b hb
    · exact hX
  have g1 : ∀ X, (S.set (1 - s) X).getD (1 - s) [] = X := fun X => by simp [List.getD, List.getElem?_set_self (show 1 - s < S.length by omega)]
  have g2 : ∀ X k, k ≠ 1 - s → (S.set (1 - s) X).getD k [] = S.getD k [] := fun X k hk => by simp [List.getD, List.getElem?_set_ne (Ne.symm hk)]
  have hbk : ∀ X, bankS (S.set (1 - s) X) = bankS S := fun X => by unfold bankS; rw [List.length_set]
  have hfs : ∀ X b, firstS (S.set (1 - s) X) b = firstS S b := fun X b => by unfold firstS; rw [hbk]
  have f2 : ∀ b, 2 ≤ firstS S b := fun b => by unfold firstS; omega
  have old : ∀ X, Slot J.n X → JSt (S.set (1 - s) X) J bs := fun X hX => by
    refine ⟨by rw [List.length_set]; exact j.lo, by rw [List.length_set]; exact j.hi, wl X hX.wb, j.n1, j.n2, j.may, j.blocks, j.batches, by rw [hbk]; exact j.room, j.sz, fun i hi => ?_, s, hs, ?_, ?_⟩
    · rw [hfs, g2 _ _ (by have := f2 J.h.bank; omega)]; exact j.cnt i hi
    · rw [g2 _ _ (by omega)]; exact h1
    · rw [g1]; exact hX
  have new : JSt (S.set (1 - s) (sealB (J.n + 1) h.bytes)) ⟨J.n + 1, h⟩ bs' := by
    refine ⟨by rw [List.length_set]; exact j.lo, by rw [List.length_set]; exact j.hi, wl _ (sealB_WB hb9), by dsimp only; omega, by dsimp only; omega, may, blocks, batches, by rw [hbk]; exact room, sz, fun i hi => ?_, 1 - s, by omega, ?_, ?_⟩
    · dsimp only at hi ⊢
      rw [hfs, g2 _ _ (by have := f2 h.bank; omega)]; exact cnt i hi
    · rw [g1, hp]
    · dsimp only
      rw [show 1 - (1 - s) = s by omega, g2 _ _ (by omega), h1, hp0]
      exact slot_seal (by omega) j.n2 (by rw [bytes_len]; omega)
  have hfull : n = 128 → torn (S.getD (1 - s) []) (sealB (J.n + 1) h.bytes) n = sealB (J.n + 1) h.bytes := fun e => by subst e; exact torn128 h2.wb (sealB_WB hb9)
  refine ⟨?_, fun e => by rw [hfull e]; exact new⟩
  rcases key with e | e
  · rw [e]; exact .inr new
  · exact .inl (old _ e)
/-- Laying, wherever the power is cut. -/
theorem lay_out {D : DS} {J : JM} {bs bs' : List Blk} {at_ : Nat} {l : List Blk} {h : HdM} (j : JSt D.sure J bs) (c : Calm D) (o : LayOk D.sure J at_ l h bs') :
    ((layM J at_ l h D).1 = 0 ∧ (layM J at_ l h D).2.1 = ⟨J.n + 1, h⟩ ∧ Calm (layM J at_ l h D).2.2 ∧ (layM J at_ l h D).2.2.sure.length = D.sure.length ∧ JSt (layM J at_ l h D).2.2.sure ⟨J.n + 1, h⟩ bs' ∧ (D.left = 0 → (layM J at_ l h D).2.2.left = 0)) ∨
    ((layM J at_ l h D).1 = 9 ∧ D.left ≠ 0 ∧ (layM J at_ l h D).2.1 = J ∧ (layM J at_ l h D).2.2.dark = true ∧ (layM J at_ l h D).2.2.sure.length = D.sure.length ∧
      ∀ picks, JSt ((layM J at_ l h D).2.2.crash picks).sure J bs ∨ JSt ((layM J at_ l h D).2.2.crash picks).sure ⟨J.n + 1, h⟩ bs') := by
  obtain ⟨S, hS⟩ : ∃ S, S = D.sure := ⟨_, rfl⟩
  rw [← hS] at j o ⊢
  have lo := j.lo
  have hw0 : Wrote S at_ l 0 D D := ⟨c.lit, hS.symm, by simp [c.loose], fun h => h⟩
  have hrun := run_writes o.hi D [DS.flush, markM J h, DS.flush] l.length 0 D (by omega) hw0
  have hls : layS J at_ l h = ((List.range' 0 l.length).map fun (j : Nat) (D : DS) => D.write ((at_ : Int) + (j : Int)) (l.getD j [])) ++ [DS.flush, markM J h, DS.flush] := by
    unfold layS writesM; rw [List.range_eq_range']
  rw [← hls] at hrun
  have hputs : ∀ k, k ≤ l.length → ∀ p ∈ (List.range k).map (fun j => (at_ + j, l.getD j [])), ¬ Live S J p.1 ∧ p.1 < S.length ∧ WB p.2 := fun k hk p hp => by
    have oh := o.hi
    simp only [List.mem_map, List.mem_range] at hp
    obtain ⟨i, hi, rfl⟩ := hp
    exact ⟨o.free _ (by dsimp only; omega) (by dsimp only; omega), by dsimp only; omega, getD_WB o.wl (by omega)⟩
  have dark : ∀ (D' : DS), D'.dark = true → D.left ≠ 0 → D'.sure.length = S.length → (∀ picks, JSt (D'.crash picks).sure J bs ∨ JSt (D'.crash picks).sure ⟨J.n + 1, h⟩ bs') → runM (layS J at_ l h) D = (9, D') →
      ((layM J at_ l h D).1 = 9 ∧ D.left ≠ 0 ∧ (layM J at_ l h D).2.1 = J ∧ (layM J at_ l h D).2.2.dark = true ∧ (layM J at_ l h D).2.2.sure.length = S.length ∧
      ∀ picks, JSt ((layM J at_ l h D).2.2.crash picks).sure J bs ∨ JSt ((layM J at_ l h D).2.2.crash picks).sure ⟨J.n + 1, h⟩ bs') := fun D' h1 h2 h3 h4 h5 => by
    unfold layM; rw [h5]; exact ⟨rfl, h2, rfl, h1, h3, h4⟩
  rcases hrun with ⟨D1, w1, e1⟩ | ⟨D1, k, hk, hl0, hd, hs1, hlo, e1⟩
  rotate_left
  · refine .inr (dark D1 hd hl0 (by rw [hs1]) (fun picks => .inl ?_) e1)
    show JSt (settleL D1.sure picks 0 0 D1.loose) J bs
    rw [hs1, hlo]
    exact j.settled (hputs k hk) _ _ _
  -- the first flush
  rw [runM] at e1
  have lit1 : D1.lit 0 = 0 := by
    unfold DS.lit DS.there errOf
    rw [w1.lit, if_neg (by simp), w1.sure, if_pos (by omega)]
  rcases step_two D1 with ⟨h1, h2⟩ | h2
  · have e : D1.flush = (9, { D1 with dark := true }) := by unfold DS.flush; rw [lit1, h2]; simp
    rw [e] at e1
    refine .inr (dark { D1 with dark := true } rfl (fun h0 => h1 (w1.left h0)) (by rw [w1.sure]) (fun picks => .inl ?_) (by rw [e1]; simp))
    show JSt (settleL D1.sure picks 0 0 D1.loose) J bs
    rw [w1.sure, w1.loose]
    exact j.settled (hputs _ (Nat.le_refl _)) _ _ _
  have e : D1.flush = (0, { D1 with sure := settleL S [] 128 0 ((List.range l.length).map fun j => (at_ + j, l.getD j [])), loose := [], left := max (D1.left - 1) 0, steps := D1.steps + 1 }) := by
    unfold DS.flush; rw [lit1, h2]; simp [DS.settle, w1.sure, w1.loose]
  have j2 : JSt (settleL S [] 128 0 ((List.range l.length).map fun j => (at_ + j, l.getD j []))) J bs := j.settled (hputs _ (Nat.le_refl _)) _ _ _
  have g2 := fun k => settle_puts S at_ l j.wb o.wl o.hi k l.length (Nat.le_refl _)
  have len2 := length_settleL [] 128 ((List.range l.length).map fun j => (at_ + j, l.getD j [])) S 0
  rw [e] at e1
  simp only [ne_eq, not_true_eq_false, if_false] at e1
  generalize settleL S [] 128 0 ((List.range l.length).map fun j => (at_ + j, l.getD j [])) = S2 at *
  obtain ⟨D2, hD2⟩ : ∃ D2 : DS, D2 = { D1 with sure := S2, loose := [], left := max (D1.left - 1) 0, steps := D1.steps + 1 } := ⟨_, rfl⟩
  rw [← hD2] at e1
  have c2 : Calm D2 := ⟨by rw [hD2]; exact w1.lit, by rw [hD2]⟩
  have s2 : D2.sure = S2 := by rw [hD2]
  have l2 : D.left = 0 → D2.left = 0 := fun h0 => by rw [hD2]; have := w1.left h0; dsimp only; omega
  -- the head
  rw [runM] at e1
  have hb2 := c2.both (by rw [s2]; omega)
  rw [s2] at hb2
  obtain ⟨s, hs, hnx, hs1, hs2⟩ := j2.newest.2
  have hp := putH_ok (n := J.n + 1) (h := h) (by omega) (by have := o.n2; omega) o.may
  have hpw := putH_WB (J.n + 1) h
  have em : markM J h D2 = D2.write ((1 - s : Nat) : Int) (putH (J.n + 1) h).1 := by
    unfold markM; rw [hb2]; simp only [ne_eq, not_true_eq_false, if_false]
    rw [if_neg (by rw [hp]; simp), hnx]
  have lit2 : D2.lit ((1 - s : Nat) : Int) = 0 := c2.litAt (by rw [s2]; omega)
  have bk2 : bankS S2 = bankS S := by unfold bankS; rw [len2]
  have fs2 : ∀ b, firstS S2 b = firstS S b := fun b => by unfold firstS; rw [bk2]
  have hn := fun {n : Nat} (hn : n ≤ 128) => head_new (n := n) (bs' := bs') j2 hs hs1 hs2 o.n2 o.may o.blocks o.batches (by rw [bk2]; exact o.room) o.sz (fun i hi => by rw [fs2, g2]; exact o.cnt i hi) hn
  rcases step_two D2 with ⟨h3, h4⟩ | h4
  · have e3 : D2.write ((1 - s : Nat) : Int) (putH (J.n + 1) h).1 = (9, { D2 with dark := true }) := by unfold DS.write; rw [lit2, h4]; simp
    rw [em, e3] at e1
    refine .inr (dark { D2 with dark := true } rfl (fun h0 => h3 (l2 h0)) (by dsimp only; rw [s2]; exact len2) (fun picks => .inl ?_) (by rw [e1]; simp))
    show JSt (settleL D2.sure picks 0 0 D2.loose) J bs
    rw [c2.loose, s2]; exact j2
  have e3 : D2.write ((1 - s : Nat) : Int) (putH (J.n + 1) h).1 = (0, { D2 with loose := [(1 - s, (putH (J.n + 1) h).1)], left := max (D2.left - 1) 0, steps := D2.steps + 1 }) := by
    unfold DS.write; rw [lit2, h4]; simp [c2.loose]
  rw [em, e3] at e1
  simp only [ne_eq, not_true_eq_false, if_false] at e1
  obtain ⟨D3, hD3⟩ : ∃ D3 : DS, D3 = { D2 with loose := [(1 - s, (putH (J.n + 1) h).1)], left := max (D2.left - 1) 0, steps := D2.steps + 1 } := ⟨_, rfl⟩
  rw [← hD3] at e1
  have s3 : D3.sure = S2 := by rw [hD3]; exact s2
  have lo3 : D3.loose = [(1 - s, (putH (J.n + 1) h).1)] := by rw [hD3]
  have dk3 : D3.dark = false := by rw [hD3]; exact c2.lit
  have l3 : D.left = 0 → D3.left = 0 := fun h0 => by rw [hD3]; have := l2 h0; dsimp only; omega
  -- the last flush
  rw [runM] at e1
  have lit3 : D3.lit 0 = 0 := by
    unfold DS.lit DS.there errOf
    rw [dk3, if_neg (by simp), s3, if_pos (by omega)]
  rcases step_two D3 with ⟨h5, h6⟩ | h6
  · have e4 : D3.flush = (9, { D3 with dark := true }) := by unfold DS.flush; rw [lit3, h6]; simp
    rw [e4] at e1
    refine .inr (dark { D3 with dark := true } rfl (fun h0 => h5 (l3 h0)) (by dsimp only; rw [s3]; exact len2) (fun picks => ?_) (by rw [e1]; simp))
    show JSt (settleL D3.sure picks 0 0 D3.loose) J bs ∨ JSt (settleL D3.sure picks 0 0 D3.loose) _ bs'
    rw [s3, lo3]
    simp only [settleL]
    refine (hn ?_).1
    unfold pickAt
    split <;> omega
  · have e4 : D3.flush = (0, { D3 with sure := settleL S2 [] 128 0 [(1 - s, (putH (J.n + 1) h).1)], loose := [], left := max (D3.left - 1) 0, steps := D3.steps + 1 }) := by
      unfold DS.flush; rw [lit3, h6]; simp [DS.settle, s3, lo3]
    rw [e4] at e1
    simp only [ne_eq, not_true_eq_false, if_false, runM] at e1
    left
    have el : layM J at_ l h D = (0, ⟨J.n + 1, h⟩, { D3 with sure := settleL S2 [] 128 0 [(1 - s, (putH (J.n + 1) h).1)], loose := [], left := max (D3.left - 1) 0, steps := D3.steps + 1 }) := by
      unfold layM; rw [e1]; simp
    rw [el]
    refine ⟨rfl, rfl, ⟨dk3, rfl⟩, ?_, ?_, fun h0 => by have := l3 h0; dsimp only; omega⟩
    · dsimp only; rw [length_settleL]; exact len2
    · dsimp only
      simp only [settleL, pickAt, List.getElem?_nil]
      exact (hn (Nat.le_refl _)).2 rfl
end Go.Cx
/-! The journal in plain Lean: Append, Replace, Make. No program in sight. -/
namespace Go.Cx
theorem asked_ok {D : DS} {b : Blk} (c : Calm D) (hb : b.length ≤ 1048576) : askedM D b = (cutB b, 0) := by
  unfold askedM; rw [if_neg (by omega), if_neg (by simp [c.lit])]
theorem first_of {S : List Blk} {b b' i j : Nat} (hb : b < 2) (hb' : b' < 2) (hi : i < bankS S) (hj : j < bankS S) (e : firstS S b + i = firstS S b' + j) : b = b' ∧ i = j := by
  unfold firstS at e
  have h1 : b = 0 ∨ b = 1 := by omega
  have h2 : b' = 0 ∨ b' = 1 := by omega
  rcases h1 with rfl | rfl <;> rcases h2 with rfl | rfl <;> omega
theorem append_out {D : DS} {J : JM} {bs : List Blk} {b : Blk} (j : JSt D.sure J bs) (c : Calm D) (n2 : J.n ≤ 59) (hb : b.length ≤ 1048576) :
    (bankS D.sure < J.h.blocks + (cutB b).length → appendM J D b = (10, J, D)) ∧
    (J.h.blocks + (cutB b).length ≤ bankS D.sure → appendM J D b = layM J (firstM D J.h.bank + J.h.blocks) (cutB b) ⟨J.h.bank, J.h.blocks + (cutB b).length, J.h.batches + 1⟩ D ∧
      LayOk D.sure J (firstM D J.h.bank + J.h.blocks) (cutB b) ⟨J.h.bank, J.h.blocks + (cutB b).length, J.h.batches + 1⟩ (bs ++ [b])) := by
  have ha := asked_ok c hb
  have hp := cut_pos b
  refine ⟨fun h => ?_, fun h => ⟨?_, ?_⟩⟩
  · unfold appendM; rw [ha, bank_eq]; simp only [ne_eq, not_true_eq_false, if_false]; rw [if_pos (by omega)]
  · unfold appendM; rw [ha, bank_eq]; simp only [ne_eq, not_true_eq_false, if_false]; rw [if_neg (by omega)]
  · obtain ⟨m1, m2, m3⟩ := j.may
    have hlast := first_le j.lo m1 (i := J.h.blocks + (cutB b).length - 1) (by omega)
    have hi := j.hi
    have hbk : bankS D.sure ≤ 2047 := by unfold bankS; omega
    rw [first_eq]
    have hcl := j.blocks
    refine ⟨chop_WB _, by omega, fun k h1 h2 => ?_, n2, ⟨m1, by dsimp only; omega, by dsimp only; omega⟩, by rw [Cut_snoc, List.length_append, ← hcl], by simp [j.batches], h, fun x hx => ?_, fun i hi => ?_⟩
    · rintro (h3 | ⟨h3, h4⟩)
      · have : 2 ≤ firstS D.sure J.h.bank := by unfold firstS; omega
        omega
      · omega
    · simp only [List.mem_append, List.mem_singleton] at hx
      rcases hx with hx | rfl
      · exact j.sz x hx
      · exact hb
    · dsimp only at hi ⊢
      rw [Cut_snoc]
      by_cases h1 : i < J.h.blocks
      · rw [if_neg (by omega), j.cnt i h1]
        simp only [List.getD_eq_getElem?_getD]
        rw [List.getElem?_append_left (by omega)]
      · rw [if_pos (by omega), show firstS D.sure J.h.bank + i - (firstS D.sure J.h.bank + J.h.blocks) = i - (Cut bs).length by omega]
        simp only [List.getD_eq_getElem?_getD]
        rw [List.getElem?_append_right (by omega)]
theorem replace_out {D : DS} {J : JM} {bs : List Blk} {b : Blk} (j : JSt D.sure J bs) (c : Calm D) (n2 : J.n ≤ 59) (hb : b.length ≤ 1048576) :
    (bankS D.sure < (cutB b).length → replaceM J D b = (10, J, D)) ∧
    ((cutB b).length ≤ bankS D.sure → replaceM J D b = layM J (firstM D (1 - J.h.bank)) (cutB b) ⟨1 - J.h.bank, (cutB b).length, 1⟩ D ∧
      LayOk D.sure J (firstM D (1 - J.h.bank)) (cutB b) ⟨1 - J.h.bank, (cutB b).length, 1⟩ [b]) := by
  have ha := asked_ok c hb
  have hp := cut_pos b
  refine ⟨fun h => ?_, fun h => ⟨?_, ?_⟩⟩
  · unfold replaceM; rw [ha, bank_eq]; simp only [ne_eq, not_true_eq_false, if_false]; rw [if_pos (by omega)]
  · unfold replaceM; rw [ha, bank_eq]; simp only [ne_eq, not_true_eq_false, if_false]; rw [if_neg (by omega)]
  · obtain ⟨m1, m2, m3⟩ := j.may
    have hlast := first_le j.lo (show 1 - J.h.bank < 2 by omega) (i := (cutB b).length - 1) (by omega)
    have hi := j.hi
    have hr := j.room
    have hbk : bankS D.sure ≤ 2047 := by unfold bankS; omega
    rw [first_eq]
    refine ⟨chop_WB _, by omega, fun k h1 h2 => ?_, n2, ⟨by dsimp only; omega, by dsimp only; omega, by dsimp only; omega⟩, by rw [Cut_one], rfl, h, fun x hx => by rw [List.mem_singleton.1 hx]; exact hb, fun i hi => ?_⟩
    · rintro (h3 | ⟨h3, h4⟩)
      · have : 2 ≤ firstS D.sure (1 - J.h.bank) := by unfold firstS; omega
        omega
      · have := first_of (S := D.sure) (b := 1 - J.h.bank) (b' := J.h.bank) (i := k - firstS D.sure (1 - J.h.bank)) (j := k - firstS D.sure J.h.bank) (by omega) m1 (by omega) (by omega) (by omega)
        omega
    · dsimp only at hi ⊢
      rw [if_pos (by omega), Nat.add_sub_cancel_left, Cut_one]
/-- A new journal on a new disk. -/
theorem make_new {n : Nat} (h1 : 64 ≤ n) (h2 : n ≤ 4096) : (makeM (DS.new n)).1 = 0 ∧ (makeM (DS.new n)).2.1 = ⟨1, HdM.z⟩ ∧ Calm (makeM (DS.new n)).2.2 ∧ (makeM (DS.new n)).2.2.left = 0 ∧ (makeM (DS.new n)).2.2.sure.length = n ∧ JSt (makeM (DS.new n)).2.2.sure ⟨1, HdM.z⟩ [] := by
  obtain ⟨S, hS⟩ : ∃ S, S = (DS.new n).sure := ⟨_, rfl⟩
  have lS : S.length = n := by rw [hS]; simp [DS.new]
  have wS : ∀ b ∈ S, WB b := by rw [hS]; intro b hb; rw [List.eq_of_mem_replicate hb]; exact WB_z
  have gS : ∀ k, k < n → S.getD k [] = zblk := fun k hk => by rw [hS]; simp [DS.new, hk]
  have hrun := run_writes (S := S) (at_ := 0) (l := [zblk, zblk]) (by simp; omega) (DS.new n) [DS.flush, markM ⟨0, HdM.z⟩ HdM.z, DS.flush] 2 0 (DS.new n) rfl ⟨rfl, hS.symm, rfl, fun h => h⟩
  have hls : layS ⟨0, HdM.z⟩ 0 [zblk, zblk] HdM.z = ((List.range' 0 2).map fun (j : Nat) (D : DS) => D.write (((0 : Nat) : Int) + (j : Int)) ([zblk, zblk].getD j [])) ++ [DS.flush, markM ⟨0, HdM.z⟩ HdM.z, DS.flush] := by
    unfold layS writesM; rw [List.range_eq_range']; rfl
  rw [← hls] at hrun
  rcases hrun with ⟨D1, w1, e1⟩ | ⟨D1, k, hk, hl0, -⟩
  rotate_left
  · exact absurd rfl hl0
  have l1 := w1.left rfl
  have st : ∀ D : DS, D.left = 0 → D.step = (0, { D with left := 0, steps := D.steps + 1 }) := fun D h => by unfold DS.step; rw [if_neg (by omega), h]; rfl
  rw [runM] at e1
  have lit1 : D1.lit 0 = 0 := by
    unfold DS.lit DS.there errOf
    rw [w1.lit, if_neg (by simp), w1.sure, if_pos (by omega)]
  have e : D1.flush = (0, { D1 with sure := settleL S [] 128 0 ((List.range 2).map fun j => (0 + j, [zblk, zblk].getD j [])), loose := [], left := 0, steps := D1.steps + 1 }) := by
    unfold DS.flush; rw [lit1, st D1 l1]; simp [DS.settle, w1.sure, w1.loose]
  have g2 := fun k => settle_puts S 0 [zblk, zblk] wS (fun b hb => by simp at hb; subst hb; exact WB_z) (by simp; omega) k 2 (Nat.le_refl _)
  have len2 := length_settleL [] 128 ((List.range 2).map fun j => (0 + j, [zblk, zblk].getD j [])) S 0
  have wb2 := settleL_WB [] 128 ((List.range 2).map fun j => (0 + j, [zblk, zblk].getD j [])) S 0 wS (fun p hp => by
    simp only [List.mem_map, List.mem_range] at hp
    obtain ⟨i, hi, rfl⟩ := hp
    refine ⟨by dsimp only; omega, ?_⟩
    match i, hi with
    | 0, _ => exact WB_z
    | 1, _ => exact WB_z)
  rw [e] at e1
  simp only [ne_eq, not_true_eq_false, if_false] at e1
  generalize settleL S [] 128 0 ((List.range 2).map fun j => (0 + j, [zblk, zblk].getD j [])) = S2 at *
  have g2' : ∀ k, k < n → S2.getD k [] = zblk := fun k hk => by
    rw [g2 k]
    split
    · rename_i h; have : k = 0 ∨ k = 1 := by omega
      rcases this with rfl | rfl <;> rfl
    · exact gS k hk
  obtain ⟨D2, hD2⟩ : ∃ D2 : DS, D2 = { D1 with sure := S2, loose := [], left := 0, steps := D1.steps + 1 } := ⟨_, rfl⟩
  rw [← hD2] at e1
  have c2 : Calm D2 := ⟨by rw [hD2]; exact w1.lit, by rw [hD2]⟩
  have s2 : D2.sure = S2 := by rw [hD2]
  have l2 : D2.left = 0 := by rw [hD2]
  rw [runM] at e1
  have hb2 := c2.both (by rw [s2]; omega)
  rw [s2, g2' 0 (by omega), g2' 1 (by omega)] at hb2
  have hp := putH_ok (n := 0 + 1) (h := HdM.z) (by omega) (by omega) (by decide)
  have hnx : nextM zblk zblk = 0 := by decide +kernel
  have em : markM ⟨0, HdM.z⟩ HdM.z D2 = D2.write 0 (sealB 1 HdM.z.bytes) := by
    unfold markM; rw [hb2]; simp only [ne_eq, not_true_eq_false, if_false]
    rw [hp, hnx]; simp
  have lit2 : D2.lit 0 = 0 := c2.litAt (k := 0) (by rw [s2]; omega)
  have e3 : D2.write 0 (sealB 1 HdM.z.bytes) = (0, { D2 with loose := [(0, sealB 1 HdM.z.bytes)], left := 0, steps := D2.steps + 1 }) := by
    unfold DS.write; rw [lit2, st D2 l2]; simp [c2.loose]
  rw [em, e3] at e1
  simp only [ne_eq, not_true_eq_false, if_false] at e1
  rw [runM] at e1
  have e4 : ({ D2 with loose := [(0, sealB 1 HdM.z.bytes)], left := 0, steps := D2.steps + 1 } : DS).flush = (0, { D2 with sure := settleL S2 [] 128 0 [(0, sealB 1 HdM.z.bytes)], loose := [], left := 0, steps := D2.steps + 1 + 1 }) := by
    unfold DS.flush
    rw [show ({ D2 with loose := [(0, sealB 1 HdM.z.bytes)], left := 0, steps := D2.steps + 1 } : DS).lit 0 = 0 from lit2, st _ rfl]
    simp [DS.settle, s2]
  rw [e4] at e1
  simp only [ne_eq, not_true_eq_false, if_false, runM] at e1
  have el : makeM (DS.new n) = (0, ⟨1, HdM.z⟩, { D2 with sure := settleL S2 [] 128 0 [(0, sealB 1 HdM.z.bytes)], loose := [], left := 0, steps := D2.steps + 1 + 1 }) := by
    unfold makeM layM; rw [e1]; simp
  have hw1 : WB (sealB 1 HdM.z.bytes) := sealB_WB (by decide)
  have hset : settleL S2 [] 128 0 [(0, sealB 1 HdM.z.bytes)] = S2.set 0 (sealB 1 HdM.z.bytes) := by
    simp only [settleL, pickAt, List.getElem?_nil]
    rw [torn128 (by rw [g2' 0 (by omega)]; exact WB_z) hw1]
  rw [el, hset]
  refine ⟨rfl, rfl, ⟨c2.lit, rfl⟩, rfl, by dsimp only; rw [List.length_set]; omega, ?_⟩
  dsimp only
  refine ⟨by rw [List.length_set]; omega, by rw [List.length_set]; omega, fun b hb => ?_, by decide, by decide, by decide, rfl, rfl, Nat.zero_le _, (fun b hb => by cases hb), fun i hi => absurd hi (Nat.not_lt_zero _), 0, by omega, ?_, ?_⟩
  · rcases List.mem_or_eq_of_mem_set hb with hb | rfl
    · exact wb2 b hb
    · exact hw1
  · have := putH_ok (n := 1) (h := HdM.z) (by omega) (by omega) (by decide)
    rw [this]
    simp [List.getD, List.getElem?_set_self (show 0 < S2.length by omega)]
  · have : (S2.set 0 (sealB 1 HdM.z.bytes)).getD 1 [] = zblk := by
      have := g2' 1 (by omega)
      simp only [List.getD_eq_getElem?_getD] at this ⊢
      rw [List.getElem?_set_ne (by omega)]; exact this
    rw [Nat.sub_zero, this]
    exact slot_z (Nat.le_refl _)
end Go.Cx
/-! Layer 9, plain: what batches come to; how much a table weighs. No program in sight. -/
namespace Go.Cx
theorem snocI {α : Type} {p : List α → Prop} (h0 : p []) (h1 : ∀ l x, p l → p (l ++ [x])) (l : List α) : p l := by
  have : ∀ r : List α, p r.reverse := fun r => by
    induction r with
    | nil => exact h0
    | cons x r ih => rw [List.reverse_cons]; exact h1 _ _ ih
  have h := this l.reverse
  rwa [List.reverse_reverse] at h
def foldStep (o : Option Tab) (b : Blk) : Option Tab := o.bind fun t => if (getB b).2 = 0 then some (applyM t (getB b).1) else none
def foldB (bs : List Blk) : Option Tab := bs.foldl foldStep (some [])
theorem foldB_nil : foldB [] = some [] := rfl
theorem fold_none (bs : List Blk) : bs.foldl foldStep none = none := by
  induction bs with
  | nil => rfl
  | cons b bs ih => exact ih
theorem foldB_snoc {bs : List Blk} {t : Tab} {b : Blk} {l : List ChM} (h : foldB bs = some t) (g : getB b = (l, 0)) : foldB (bs ++ [b]) = some (applyM t l) := by
  unfold foldB at h ⊢
  rw [List.foldl_append, h]
  simp [foldStep, g]
theorem foldB_snoc_inv {bs : List Blk} {t : Tab} {b : Blk} (h : foldB (bs ++ [b]) = some t) : ∃ t0, foldB bs = some t0 ∧ (getB b).2 = 0 ∧ t = applyM t0 (getB b).1 := by
  unfold foldB at h ⊢
  rw [List.foldl_append] at h
  cases e : bs.foldl foldStep (some []) with
  | none => rw [e] at h; cases h
  | some t0 =>
    rw [e] at h
    simp only [List.foldl_cons, List.foldl_nil, foldStep, Option.bind_some] at h
    split at h
    · rename_i hg; exact ⟨t0, rfl, hg, (Option.some.inj h).symm⟩
    · cases h
theorem foldB_pre {bs cs : List Blk} {t : Tab} (h : foldB (bs ++ cs) = some t) : ∃ t0, foldB bs = some t0 := by
  unfold foldB at h ⊢
  rw [List.foldl_append] at h
  cases e : bs.foldl foldStep (some []) with
  | none => rw [e, fold_none] at h; cases h
  | some t0 => exact ⟨t0, rfl⟩
theorem foldB_step {bs : List Blk} {t u : Tab} (h : foldB bs = some t) {i : Nat} (hi : i < bs.length) (hu : foldB (bs.take i) = some u) : (getB bs[i]).2 = 0 ∧ foldB (bs.take (i + 1)) = some (applyM u (getB bs[i]).1) := by
  have e : bs.take (i + 1) = bs.take i ++ [bs[i]] := by rw [List.take_add_one, List.getElem?_eq_getElem hi]; rfl
  obtain ⟨t1, h1⟩ := foldB_pre (bs := bs.take (i + 1)) (cs := bs.drop (i + 1)) (by rw [List.take_append_drop]; exact h)
  rw [e] at h1 ⊢
  obtain ⟨t0, h2, h3, rfl⟩ := foldB_snoc_inv h1
  obtain rfl := Option.some.inj (hu.symm.trans h2)
  exact ⟨h3, h1⟩
theorem apply_mem : ∀ (t : Tab) (l : List ChM), ∀ r ∈ applyM t l, r ∈ t ∨ ∃ c ∈ l, c.gone = false ∧ r = (c.key, c.val) := by
  intro t l
  induction t, l using applyM.induct with
  | case1 => intro r h; rw [applyM] at h; cases h
  | case2 x t => intro r h; rw [applyM] at h; exact .inl h
  | case3 y l hg ih => intro r h; rw [applyM, if_pos hg] at h; exact (ih r h).imp id fun ⟨c, h1, h2⟩ => ⟨c, .tail _ h1, h2⟩
  | case4 y l hg ih =>
    intro r h; rw [applyM, if_neg hg] at h
    rcases List.mem_cons.1 h with rfl | h
    · exact .inr ⟨y, .head _, by simpa using hg, rfl⟩
    · exact (ih r h).imp id fun ⟨c, h1, h2⟩ => ⟨c, .tail _ h1, h2⟩
  | case5 x t y l hk ih =>
    intro r h; rw [applyM, if_pos hk] at h
    rcases List.mem_cons.1 h with rfl | h
    · exact .inl (.head _)
    · exact (ih r h).imp (.tail _) id
  | case6 x t y l hk he hg ih =>
    intro r h; rw [applyM, if_neg hk, if_pos he, if_pos hg] at h
    exact (ih r h).imp (.tail _) fun ⟨c, h1, h2⟩ => ⟨c, .tail _ h1, h2⟩
  | case7 x t y l hk he hg ih =>
    intro r h; rw [applyM, if_neg hk, if_pos he, if_neg hg] at h
    rcases List.mem_cons.1 h with rfl | h
    · exact .inr ⟨y, .head _, by simpa using hg, rfl⟩
    · exact (ih r h).imp (.tail _) fun ⟨c, h1, h2⟩ => ⟨c, .tail _ h1, h2⟩
  | case8 x t y l hk he hg ih =>
    intro r h; rw [applyM, if_neg hk, if_neg he, if_pos hg] at h
    exact (ih r h).imp id fun ⟨c, h1, h2⟩ => ⟨c, .tail _ h1, h2⟩
  | case9 x t y l hk he hg ih =>
    intro r h; rw [applyM, if_neg hk, if_neg he, if_neg hg] at h
    rcases List.mem_cons.1 h with rfl | h
    · exact .inr ⟨y, .head _, by simpa using hg, rfl⟩
    · exact (ih r h).imp id fun ⟨c, h1, h2⟩ => ⟨c, .tail _ h1, h2⟩
theorem apply_may {t : Tab} {l : List ChM} (ht : MayR t) (hl : MayC l) : MayR (applyM t l) := by
  refine ⟨apply_rising t l ht.1 hl.1, fun r hr => ?_⟩
  rcases apply_mem t l r hr with h | ⟨c, h1, h2, rfl⟩
  · exact ht.2 r h
  · exact ⟨(hl.2 c h1).k1, (hl.2 c h1).k2, (hl.2 c h1).v⟩
theorem fold_may : ∀ (bs : List Blk) (t : Tab), foldB bs = some t → MayR t := by
  refine snocI ?_ ?_
  · intro t h; rw [← Option.some.inj h]; exact may_nil
  · intro bs b ih t h
    obtain ⟨t0, h1, h2, rfl⟩ := foldB_snoc_inv h
    exact apply_may (ih t0 h1) (put_getB (b := b) (l := (getB b).1) (by rw [← h2])).1
/-! ### What it weighs -/
def wt : Tab → Nat
  | [] => 0
  | r :: t => 9 + r.1.length + r.2.length + wt t
def wl (l : List ChM) : Nat := ((l.map chB).flatten).length
theorem wl_cons (c : ChM) (l : List ChM) : wl (c :: l) = (chB c).length + wl l := by simp [wl]
theorem put_wl (l : List ChM) : (putB l).length = 4 + wl l := by simp [putB, wl]
theorem chB_lo (c : ChM) : 4 + c.key.length + (if c.gone then 1 else 5 + c.val.length) = (chB c).length := by
  unfold chB
  cases c.gone <;> simp [rowB_length] <;> omega
theorem wt_apply : ∀ (t : Tab) (l : List ChM), wt (applyM t l) ≤ wt t + wl l := by
  intro t l
  induction t, l using applyM.induct with
  | case1 => rw [applyM]; simp [wt]
  | case2 x t => rw [applyM]; simp [wl]
  | case3 y l hg ih => rw [applyM, if_pos hg, wl_cons]; omega
  | case4 y l hg ih =>
    have := chB_lo y
    rw [if_neg hg] at this
    rw [applyM, if_neg hg, wl_cons]; simp only [wt] at ih ⊢; omega
  | case5 x t y l hk ih => rw [applyM, if_pos hk]; simp only [wt] at ih ⊢; omega
  | case6 x t y l hk he hg ih => rw [applyM, if_neg hk, if_pos he, if_pos hg, wl_cons]; simp only [wt] at ih ⊢; omega
  | case7 x t y l hk he hg ih =>
    have := chB_lo y
    rw [if_neg hg] at this
    rw [applyM, if_neg hk, if_pos he, if_neg hg, wl_cons]; simp only [wt] at ih ⊢; omega
  | case8 x t y l hk he hg ih => rw [applyM, if_neg hk, if_neg he, if_pos hg, wl_cons]; omega
  | case9 x t y l hk he hg ih =>
    have := chB_lo y
    rw [if_neg hg] at this
    rw [applyM, if_neg hk, if_neg he, if_neg hg, wl_cons]; simp only [wt] at ih ⊢; omega
theorem wl_whole : ∀ (t : Tab), wl (betweenM [] t) = wt t
  | [] => by rw [betweenM]; rfl
  | r :: t => by
    rw [betweenM, wl_cons, wl_whole t, ← chB_lo]
    simp [wt]; omega
theorem wt_len : ∀ (t : Tab), t.length ≤ wt t
  | [] => Nat.le_refl _
  | r :: t => by have := wt_len t; simp only [wt, List.length_cons]; omega
theorem wl_len : ∀ (l : List ChM), l.length ≤ wl l
  | [] => Nat.le_refl _
  | c :: l => by have := wl_len l; have := chB_lo c; rw [wl_cons]; simp only [List.length_cons]; split at this <;> omega
/-- The whole of a table, as one batch. -/
def wholeB (t : Tab) : Blk := putB (betweenM [] t)
theorem wholeB_len (t : Tab) : (wholeB t).length = 4 + wt t := by unfold wholeB; rw [put_wl, wl_whole]
theorem whole_may {t : Tab} (h : MayR t) : MayC (betweenM [] t) := between_may may_nil h
theorem fold_whole {t : Tab} (h : MayR t) (hw : wt t < 4294967296) : foldB [wholeB t] = some t := by
  have hl : (betweenM [] t).length < 4294967296 := by have := wl_len (betweenM [] t); rw [wl_whole] at this; omega
  have := foldB_snoc (b := wholeB t) foldB_nil (get_putB (whole_may h) hl)
  rw [apply_whole t h.1] at this
  exact this
theorem fold_put {bs : List Blk} {t : Tab} {l : List ChM} (h : foldB bs = some t) (m : MayC l) (hw : wl l < 4294967296) : foldB (bs ++ [putB l]) = some (applyM t l) :=
  foldB_snoc h (get_putB m (by have := wl_len l; omega))
theorem wholeB_cut (t : Tab) : (cutB (wholeB t)).length = (wt t + 135) / 128 := by rw [cut_len, wholeB_len]; congr 1; omega
/-- What the changes of one call weigh. -/
theorem wl_small : ∀ {l : List ChM}, (∀ c ∈ l, c.ok) → wl l ≤ 25 * l.length + (l.map fun c => c.val.length).sum
  | [], _ => by simp [wl]
  | c :: l, h => by
    have ih := wl_small (l := l) fun c hc => h c (.tail _ hc)
    have h1 := (h c (.head _)).k2
    have h2 := chB_lo c
    rw [wl_cons]
    simp only [List.map_cons, List.sum_cons, List.length_cons]
    split at h2 <;> omega
end Go.Cx
/-! Layer 8's document, plain: row by row it comes to the same. No program in sight. -/
namespace Go.Cx
theorem apply_nil (t : Tab) : applyM t [] = t := by cases t <;> rw [applyM]
theorem rising_one (c : ChM) : RisingC [c] := .cons (fun _ h => by cases h) .nil
theorem fold_apply_val (k : Blk) : ∀ (l : List ChM) (t : Tab), Rising t → RisingC l → val (l.foldl (fun t c => applyM t [c]) t) k = chV l k (val t k)
  | [], t, _, _ => by simp [chV_low (l := []) (fun _ h => by cases h)]
  | y :: l, t, ht, hl => by
    have hl' : RisingC l := List.Pairwise.of_cons hl
    have hlow : ∀ z ∈ l, klt y.key z.key = true := fun z hz => List.rel_of_pairwise_cons hl hz
    rw [List.foldl_cons, fold_apply_val k l _ (apply_rising t [y] ht (rising_one y)) hl', val_apply k t [y] ht (rising_one y), chV_cons, chV_cons]
    by_cases h : y.key = k
    · rw [if_pos h, if_pos h]
      subst h
      exact chV_low hlow _
    · rw [if_neg h, if_neg h, chV_low (l := []) (fun _ h => by cases h)]
theorem fold_apply_rising : ∀ (l : List ChM) (t : Tab), Rising t → Rising (l.foldl (fun t c => applyM t [c]) t)
  | [], _, h => h
  | y :: l, t, h => fold_apply_rising l _ (apply_rising t [y] h (rising_one y))
theorem fold_apply {t : Tab} {l : List ChM} (ht : Rising t) (hl : RisingC l) : l.foldl (fun t c => applyM t [c]) t = applyM t l :=
  val_ext (fold_apply_rising l t ht) (apply_rising t l ht hl) fun k => by rw [fold_apply_val k l t ht hl, val_apply k t l ht hl]
/-- A row put where it belongs, as the document does it. -/
def pgK {α : Type} (key : α → Blk) (x : α) : Bool → List α → List α
  | d, [] => if d then [] else [x]
  | d, r :: t => (if d = false ∧ klt (key r) (key x) = false then [x] else []) ++ (if key r = key x then [] else [r]) ++ pgK key x (d || !klt (key r) (key x)) t
theorem pgK_map {α β : Type} (f : α → β) (key : α → Blk) (key' : β → Blk) (hk : ∀ a, key' (f a) = key a) (x : α) : ∀ (d : Bool) (l : List α), (pgK key x d l).map f = pgK key' (f x) d (l.map f)
  | d, [] => by cases d <;> simp [pgK]
  | d, r :: t => by
    rw [pgK, List.map_cons, pgK, List.map_append, List.map_append, pgK_map f key key' hk x, hk, hk]
    congr 1
    congr 1
    · split <;> rfl
    · split <;> rfl
theorem pgK_mem {α : Type} (key : α → Blk) (x : α) : ∀ (d : Bool) (l : List α), ∀ r ∈ pgK key x d l, r = x ∨ r ∈ l
  | d, [], r, h => by rw [pgK] at h; split at h <;> simp_all
  | d, q :: t, r, h => by
    rw [pgK] at h
    rcases List.mem_append.1 h with h | h
    · rcases List.mem_append.1 h with h | h
      · split at h <;> simp_all
      · split at h <;> simp_all
    · exact (pgK_mem key x _ t r h).imp id (.tail _)
theorem pgK_len {α : Type} (key : α → Blk) (x : α) : ∀ (d : Bool) (l : List α), (pgK key x d l).length ≤ l.length + (if d then 0 else 1)
  | d, [] => by cases d <;> simp [pgK]
  | d, q :: t => by
    have ih := pgK_len key x (d || !klt (key q) (key x)) t
    rw [pgK]
    simp only [List.length_append, List.length_cons]
    cases d <;> cases hk : klt (key q) (key x) <;> simp [hk] at ih ⊢ <;> split <;> simp <;> omega
theorem pg_true (x : Blk × Blk) : ∀ (t : Tab), (∀ r ∈ t, r.1 ≠ x.1) → pgK Prod.fst x true t = t
  | [], _ => by simp [pgK]
  | r :: t, h => by
    rw [pgK, if_neg (by simp), if_neg (h r (.head _)), Bool.true_or, pg_true x t fun q hq => h q (.tail _ hq)]
    rfl
theorem pg_false (x : Blk × Blk) : ∀ (t : Tab), Rising t → pgK Prod.fst x false t = applyM t [⟨x.1, x.2, false⟩]
  | [], _ => by simp [pgK, applyM]
  | r :: t, h => by
    have ht : Rising t := List.Pairwise.of_cons h
    have hr : ∀ q ∈ t, klt r.1 q.1 = true := fun q hq => List.rel_of_pairwise_cons h hq
    rw [pgK, applyM]
    rcases klt_tri r.1 x.1 with hk | hk | hk
    · rw [if_neg (by simp [hk]), if_neg (klt_ne hk), if_pos (show klt r.1 (ChM.key ⟨x.1, x.2, false⟩) = true from hk), hk]
      simp only [Bool.not_true, Bool.or_false, List.nil_append, List.singleton_append]
      rw [pg_false x t ht]
    · have hf : klt r.1 x.1 = false := by rw [hk]; exact klt_irr _
      rw [if_pos ⟨rfl, hf⟩, if_pos hk, if_neg (show ¬ klt r.1 (ChM.key ⟨x.1, x.2, false⟩) = true from by rw [show ChM.key ⟨x.1, x.2, false⟩ = x.1 from rfl, hf]; simp), if_pos (show r.1 = (ChM.key ⟨x.1, x.2, false⟩) from hk), hf]
      simp only [Bool.not_false, Bool.or_true, List.append_nil, List.singleton_append]
      rw [pg_true x t (fun q hq e => by have := hr q hq; rw [e, ← hk, klt_irr] at this; cases this), apply_nil]
      simp
    · have hf : klt r.1 x.1 = false := klt_asym hk
      have hne : ¬ r.1 = x.1 := fun e => klt_ne hk e.symm
      rw [if_pos ⟨rfl, hf⟩, if_neg hne, if_neg (show ¬ klt r.1 (ChM.key ⟨x.1, x.2, false⟩) = true from by rw [show ChM.key ⟨x.1, x.2, false⟩ = x.1 from rfl, hf]; simp), if_neg (show ¬ r.1 = (ChM.key ⟨x.1, x.2, false⟩) from hne), hf]
      simp only [Bool.not_false, Bool.or_true, List.singleton_append, List.cons_append, List.nil_append]
      rw [pg_true x t (fun q hq e => by have := klt_tr hk (hr q hq); rw [e, klt_irr] at this; cases this), apply_nil]
      simp
theorem wo_keep {k : Blk} {t : Tab} (h : ∀ r ∈ t, r.1 ≠ k) : t.filter (fun r => decide (r.1 ≠ k)) = t := List.filter_eq_self.2 fun r hr => by simp [h r hr]
theorem wo_apply (k v : Blk) : ∀ (t : Tab), Rising t → t.filter (fun r => decide (r.1 ≠ k)) = applyM t [⟨k, v, true⟩]
  | [], _ => by simp [applyM]
  | r :: t, h => by
    have ht : Rising t := List.Pairwise.of_cons h
    have hr : ∀ q ∈ t, klt r.1 q.1 = true := fun q hq => List.rel_of_pairwise_cons h hq
    rw [applyM]
    rcases klt_tri r.1 k with hk | hk | hk
    · rw [if_pos (show klt r.1 (ChM.key ⟨k, v, true⟩) = true from hk), List.filter_cons_of_pos (by simp [klt_ne hk]), wo_apply k v t ht]
    · have hf : klt r.1 k = false := by rw [hk]; exact klt_irr _
      rw [if_neg (show ¬ klt r.1 (ChM.key ⟨k, v, true⟩) = true from by rw [show ChM.key ⟨k, v, true⟩ = k from rfl, hf]; simp), if_pos (show r.1 = (ChM.key ⟨k, v, true⟩) from hk), List.filter_cons_of_neg (by simp [hk]), wo_keep (fun q hq e => by have := hr q hq; rw [e, ← hk, klt_irr] at this; cases this), apply_nil]
      simp
    · have hf : klt r.1 k = false := klt_asym hk
      have hne : ¬ r.1 = k := fun e => klt_ne hk e.symm
      rw [if_neg (show ¬ klt r.1 (ChM.key ⟨k, v, true⟩) = true from by rw [show ChM.key ⟨k, v, true⟩ = k from rfl, hf]; simp), if_neg (show ¬ r.1 = (ChM.key ⟨k, v, true⟩) from hne), List.filter_cons_of_pos (by simp [hne]), wo_keep (fun q hq e => by have := klt_tr hk (hr q hq); rw [e, klt_irr] at this; cases this), apply_nil]
      simp
end Go.Cx
/-! A contract, made from and turned into what it says. -/
namespace Go.Cx
theorem Ctr.ofC {P : Program} {f : FuncId} {args : List Value} {H : List Assn} {pre : PH → Prop} {post : Value → List Assn → Prop}
    (h : ∀ x w, Sep (H ++ [exact x]) w.ph → pre x → Calls P f args.toArray w fun e w' => ∃ v M, post v M ∧ e = .returned v ∧ Sep (M ++ [exact x]) w'.ph ∧ Env0 w w') : Ctr P f args H pre post := h
end Go.Cx
/-! A batch's blocks (journal.cut, slices.Chunk), in the program. -/
namespace Go.Cx
/-- What Chunk hands out of a row of so many bytes. -/
def chunkV (g n : Nat) : List (List Value) := (List.range ((n + 127) / 128)).map fun i => [.slice (some ⟨g, i * 128, none⟩) (min 128 (n - i * 128)) (min 128 (n - i * 128))]
theorem chunkV_len (g n : Nat) : (chunkV g n).length = (n + 127) / 128 := by simp [chunkV]
theorem chunkV_at {g n i : Nat} (h : i * 128 < n) : (chunkV g n)[i]? = some [.slice (some ⟨g, i * 128, none⟩) (min 128 (n - i * 128)) (min 128 (n - i * 128))] := by
  have h2 : i < (n + 127) / 128 := by omega
  simp [chunkV, h2]
theorem rdS_of1 {L : List Assn} {a : Option Addr} {m : Nat} {B : Blk} (h : ∀ y, Sep L y → rdx a m (cb B) y) (hl : m = B.length) : RdS L a m (cb B) := by
  have := rdS_of h hl
  rwa [Nat.mul_one] at this
theorem set_pad {p : Blk} {m : Nat} (h : p.length = m) (hm : m ≤ 128) : setL (cb zblk) 0 ((cb p).take m) = cb (padB 128 p) := by
  subst h
  rw [List.take_of_length_le (by simp), cb_setL]
  congr 1
  unfold padB zblk
  rw [Nat.zero_add, List.drop_replicate, List.take_zero, List.nil_append]
theorem minI (q : Nat) : (min (128 : Int) (q : Int)) = ((min 128 q : Nat) : Int) := by omega
end Go.Cx
namespace Go.Proofs.YtlckhaodecdbbaaGreatDoor
open Go.Cx
attribute [local irreducible] Go.Cx.CX Go.Cx.CC Go.Cx.CQ Go.Cx.PS Go.Cx.Ctr Go.Cx.CH
set_option maxRecDepth 10000
theorem chunk_c (u : Value) (hu : u.cells = #[u]) : Ctr Tryz.prog 179 [u, .int .i64 128] [] (fun _ => True)
    (fun v M => ∃ b1 b2, v = .func (.func 193) #[] #[.pointer (some ⟨b1, 0, none⟩), .pointer (some ⟨b2, 0, none⟩)] ∧ M = [bk b1 23 [u], bk b2 3 [.int .i64 128]]) := by
  refine Ctr.intro Tryz.func179 rfl Tryz.ntmps179 rfl fun x w hp => ?_
  refine wk ?_
  (apply CX.box; (· rfl); (· rfl); intro b1)
  rw [hu]
  (apply CX.box; (· rfl); (· rfl); intro b2)
  refine wk ?_
  (apply CQ.end1; (· rfl); (· exact .tmp rfl))
  · exact ⟨b1, b2, rfl, rfl⟩
  · exact selA
theorem chunkI_c (g n cap : Nat) (hn : n ≤ 1073741824) (hcap : n ≤ cap) (b1 b2 : Nat) :
    Iter Tryz.prog 193 [.pointer (some ⟨b1, 0, none⟩), .pointer (some ⟨b2, 0, none⟩)] [bk b1 23 [.slice (some ⟨g, 0, none⟩) n cap], bk b2 3 [.int .i64 128]] (fun _ => True) (chunkV g n) := by
  refine Iter.intro Tryz.func193 rfl Tryz.ntmps193 rfl ?_
  rintro ly x I w - hY M0 hI0
  refine wk ?_
  refine CC.loop (X := Nat × List Assn) (fun s => [(0, .func (.yield ly) #[] #[]), (1, .pointer (some ⟨b1, 0, none⟩)), (2, .pointer (some ⟨b2, 0, none⟩)), (4, .int .i64 ((s.1 * 128 : Nat) : Int))])
    (fun s => [many s.2, bk b1 23 [.slice (some ⟨g, 0, none⟩) n cap], bk b2 3 [.int .i64 128], exact x]) (fun s => s.1 ≤ (n + 127) / 128 ∧ I s.1 s.2) (fun s => (n + 127) / 128 - s.1) (0, M0) ⟨Nat.zero_le _, hI0⟩ ⟨rfl, rfl, rfl, rfl, trivial⟩ (by exact selA) ?_
  rintro ⟨i, M⟩ ⟨hi, hI⟩
  dsimp only at hi hI ⊢
  by_cases h1 : i * 128 < n
  · have hat := chunkV_at (g := g) h1
    refine wk ?_
    refine CC.draw [(0, 1), (1, 1), (2, 0), (3, 0), (4, 0), (5, 0), (6, 0)] mixed rfl (by kernel_rfl) (by kernel_rfl) [bk b1 23 [.slice (some ⟨g, 0, none⟩) n cap], bk b2 3 [.int .i64 128]] ?_
    refine hwk ?_
    refine CH.pure rfl (PS.sliceLo (l := i * 128) rfl rfl rfl rfl (by omega) hcap) ?_
    refine hwk ?_
    rw [minI (n - i * 128)]
    have hmn : min 128 (n - i * 128) = if 128 ≤ n - i * 128 then 128 else n - i * 128 := by split <;> omega
    have hmp : 0 < min 128 (n - i * 128) ∧ min 128 (n - i * 128) ≤ 128 ∧ i * 128 + min 128 (n - i * 128) ≤ n := by omega
    generalize min 128 (n - i * 128) = m at hat hmp
    refine wnk ?_
    refine CC.regionI ?_
    refine CXI.ps ?_
    refine CXI.ps ?_
    refine CXI.ps ?_
    refine CXI.ps ?_
    refine CXI.ps ?_
    refine CXI.ps ?_
    refine CXI.ps ?_
    refine CXI.ps ?_
    refine CXI.ps ?_
    refine CXI.ps ?_ (PS.slice3 (l := i * 128) (h := i * 128 + m) (m := i * 128 + m) rfl rfl rfl rfl (eqI (by simp)) (.inr ⟨_, rfl⟩) ⟨.i64, by simp⟩ (by omega) (by omega) (by omega))
    have e1 : cutAt (some ⟨g, 0, none⟩) (i * 128) (i * 128 + m) 1 = some ⟨g, i * 128, none⟩ := by
      unfold cutAt; rw [if_neg (by omega)]; simp [addr_add]
    rw [e1, Nat.add_sub_cancel_left]
    refine CXI.yieldM hY (k := i) (M := M) (vs := [.slice (some ⟨g, i * 128, none⟩) m m]) hat hI ?_
    intro M' hI'
    refine CXI.ps ?_
    refine CXI.nil ?_
    refine wk ?_
    exact CQ.round (x := (i, M)) (i + 1, M') ⟨by dsimp only; omega, hI'⟩ (by dsimp only; omega) ⟨rfl, rfl, rfl, eqI (by simp; omega), trivial⟩ (by exact selA)
  · have hi2 : i = (n + 127) / 128 := by omega
    refine wk ?_
    exact CQ.endIter rfl hI (by rw [chunkV_len]; exact hi2)
theorem cut_c (B : Blk) (hB : B.length ≤ 1048576) (a : Option Addr) (cap : Nat) (hn : a = none → B.length = 0 ∧ cap = 0) : Ctr Tryz.prog 157 [.slice a B.length cap] [] (fun x => rdx a B.length (cb B) x)
    (fun v M => ∃ a' c', v = .slice a' (cutB B).length c' ∧ M = [own 59 128 a' (cutB B).length c' (flat (cutB B))]) := by
  refine Ctr.introM Tryz.func157 rfl Tryz.ntmps157 rfl fun x w hp => ?_
  refine wk ?_
  refine CX.allocZ [.slice none 0 0] ?_ (hv := rfl)
  intro b3
  refine wk ?_
  refine CX.callA (row_c B (by omega) a cap hn) ?_ (hpre := by exact rdx_ex (by first | exact pickA | exact updA) hp)
  rintro _ _ ⟨g, c, rfl, rfl⟩
  refine CX.fact (own_none (e := 5) (sz := 1) (by first | exact pickA | exact updA)) ?_
  rintro ⟨-, hc, -⟩
  refine CX.callA (chunk_c (.slice (some ⟨g, 0, none⟩) (4 + B.length) c) rfl) ?_
  rintro _ _ ⟨b1, b2, rfl, rfl⟩
  refine wk ?_
  refine CC.ownNil 59 128 ?_
  have hRl : (rowB B).length = 4 + B.length := rowB_length B
  have hlen : (chunkV g (4 + B.length)).length = (cutB B).length := by rw [chunkV_len, cutB, chop_len, hRl]
  refine CC.range (chunkI_c g (4 + B.length) c (by omega) hc b1 b2) rfl (fun k M => ∃ a1 c1, M = [bk b3 73 [.slice a1 k c1], own 59 128 a1 k c1 (flat ((cutB B).take k))] ∧ k ≤ (cutB B).length)
    (M0 := [bk b3 73 [.slice none 0 0], own 59 128 none 0 0 []]) ⟨none, 0, rfl, Nat.zero_le _⟩ (by exact selA) (fun _ _ => trivial) (fun v hv => by
      simp only [chunkV, List.mem_map] at hv
      obtain ⟨i, _, rfl⟩ := hv; rfl) ?_ ?_
  · rintro ly ⟨st, pd, rfn, rtm, rps, ras, rbd, rdf⟩ k v M y e1 hk ⟨a1, c1, rfl, hkl⟩ hst hpd hy
    dsimp only at hst hpd
    subst hst; subst hpd
    have hk2 : k < (cutB B).length := by rw [← hlen]; exact (List.getElem?_eq_some_iff.1 hk).1
    have hk3 : k * 128 < 4 + B.length := by rw [cut_len] at hk2; omega
    rw [chunkV_at hk3] at hk
    obtain rfl := Option.some.inj hk
    have hry : rdx (some ⟨g, 0, none⟩) (4 + B.length) (cb (rowB B)) y := rdx_own (e := 5) (by first | exact pickA | exact updA) hRl.symm y hy
    clear hy
    have hpl : ((((rowB B).drop (k * 128)).take 128)).length = min 128 (4 + B.length - k * 128) := by simp [hRl]
    have hpart : rdx (some ⟨g, k * 128, none⟩) (min 128 (4 + B.length - k * 128)) (cb (((rowB B).drop (k * 128)).take 128)) y := by
      have := rdx_part rfl hry hRl.symm (k * 128) (min 128 (4 + B.length - k * 128)) (by omega)
      rw [Nat.zero_add] at this
      have e2 : (((rowB B).drop (k * 128)).take (min 128 (4 + B.length - k * 128))) = ((rowB B).drop (k * 128)).take 128 := by
        exact List.take_eq_take_iff.2 (by simp [hRl])
      rw [e2] at this; exact this
    have hX : (cutB B)[k] = padB 128 (((rowB B).drop (k * 128)).take 128) := chop_at (rowB B) k hk2
    have hW : WB (cutB B)[k] := chop_WB (rowB B) _ (List.getElem_mem hk2)
    have htk : flat ((cutB B).take (k + 1)) = flat ((cutB B).take k) ++ cb (cutB B)[k] := by
      rw [List.take_succ_eq_append_getElem hk2]; unfold flat; rw [rows_append]; simp [rows]
    generalize ((rowB B).drop (k * 128)).take 128 = p at *
    have hm : min 128 (4 + B.length - k * 128) ≤ 128 := Nat.min_le_left _ _
    generalize min 128 (4 + B.length - k * 128) = m at *
    simp only [putEs]
    refine wqk ?_
    refine CQ.begin rfl (by first | exact pickA | exact updA) ?_
    refine wqk ?_
    refine CX.allocZ (cb zblk) ?_
    intro q
    refine wqk ?_
    refine CX.ps (PS.sliceArr (l := 0) (h := 128) rfl rfl rfl rfl (.inl ⟨rfl, rfl⟩) (.inl ⟨rfl, rfl⟩) (by omega) (by omega)) ?_
    rw [cutAt_zero]
    refine wqk ?_
    refine CX.copyBk (m := m) (news := cb p) rfl rfl rfl (rdS_of1 (rdx_ex (by first | exact pickA | exact updA) hpart) hpl.symm) (by first | exact pickA | exact updA) (Nat.min_eq_left (by simpa using hm)).symm (by rw [WB_z.len]; omega) ?_
    rw [set_pad hpl hm, ← hX]
    refine wqk ?_
    (apply CX.ps; (· apply PS.loadG (vs := cb (cutB B)[k]); (· rfl); (· rfl); (· exact CellsAt.all (by first | exact pickA | exact updA)); (· exact hW.len)))
    refine CX.buildSl (parts := [(0, _)]) (vs := [(0, .agg (cb (cutB B)[k]).toArray)]) (out := cb (cutB B)[k]) rfl rfl (by decide) (fill_one hW.len (by simp)) fun bq => ?_
    refine CX.append (m := 1) (news := cb (cutB B)[k]) rfl rfl rfl (by first | exact pickA | exact updA) (RdS.pick (b := bq) (o := 0) (by first | exact pickA | exact updA) hW.len (one_cb _) (by rw [List.drop_zero, List.take_of_length_le (by rw [hW.len]; omega)])) (by rw [cut_len] at hk2; omega) (fun h => by cases h) ?_
    intro a3 c3
    rw [← htk]
    refine wqk ?_
    refine CQ.endRound (by first | exact pickA | exact updA) ⟨rfl, [bk b3 73 [.slice a3 (k + 1) c3], own 59 128 a3 (k + 1) c3 (flat ((cutB B).take (k + 1)))], rfl, a3, c3, rfl, by omega⟩ (by exact selA)
  · rintro D M ⟨a1, c1, rfl, hk⟩
    rw [hlen] at *
    rw [List.take_length]
    refine wdk ?_
    refine CQ.endD1 rfl (by first | exact pickA | exact updA) (.tmp rfl) ⟨a1, c1, rfl, rfl⟩ (by exact selA)
end Go.Proofs.YtlckhaodecdbbaaGreatDoor
/-! Sealed blocks (seal), in the program: what is read. -/
namespace Go.Proofs.YtlckhaodecdbbaaGreatDoor
open Go.Cx
attribute [local irreducible] Go.Cx.CX Go.Cx.CC Go.Cx.CQ Go.Cx.PS Go.Cx.Ctr Go.Cx.CH
set_option maxRecDepth 10000
/-- What Get answers. -/
def GotM (B : Blk) (v : Value) (M : List Assn) : Prop :=
  ∃ a c, v = .tuple #[.int .u64 ((getM B).1 : Int), .slice a (getM B).2.1.length c, .int .i64 (getM B).2.2] ∧ M = [own 5 1 a (getM B).2.1.length c (cb (getM B).2.1)]
/-- The same, and all of its memory. -/
def GotF (B : Blk) (v : Value) (M : List Assn) : Prop :=
  ∃ a c Z, v = .tuple #[.int .u64 ((getM B).1 : Int), .slice a (getM B).2.1.length c, .int .i64 (getM B).2.2] ∧ M = [own 5 1 a c c (cb Z)] ∧ Z.length = c ∧ (getM B).2.1.length ≤ c ∧ Z.take (getM B).2.1.length = (getM B).2.1 ∧ (a = none → c = 0)
theorem full_rdx {L L' : List Assn} {b t : Nat} {B : Blk} (hB : WB B) (p : Pick (bk b t (cb B)) L L') : ∀ y, Sep L y → rdx (some ⟨b, 0, none⟩) 128 (cb B) y := fun y hy => by
  have hB' : B.length = 128 := hB
  have := rdx_bk p 0 128 (by omega) y hy
  rwa [List.drop_zero, List.take_of_length_le (by omega)] at this
theorem sgetF_c (B : Blk) (hB : WB B) : Ctr Tryz.prog 164 [.agg (cb B).toArray] [] (fun _ => True) (GotF B) := by
  have hB' : B.length = 128 := hB
  have hl8 := valid_top hB
  refine Ctr.intro Tryz.func164 rfl Tryz.ntmps164 rfl fun x w hp => ?_
  refine wk ?_
  (refine CX.boxA ?_; intro r)
  refine wk ?_
  refine CX.callA (sbegin_c) ?_
  rintro _ _ ⟨rfl, rfl⟩
  refine wk ?_
  refine CX.callA (spget_c r 0 8 B hB (by omega) (by omega)) ?_ (hpre := by exact full_rdx hB (by first | exact pickA | exact updA))
  rintro _ _ ⟨rfl, rfl⟩
  rw [List.drop_zero]
  by_cases h1 : ofLe (B.take 8) = 0
  · have e : getM B = (0, [], 5) := by unfold getM; rw [if_pos (.inl (by omega))]
    rw [h1]
    refine wk ?_
    refine CQ.ownNil 5 1 ?_
    (apply CQ.end3; (· rfl); (· exact .tmp rfl); (· exact .tmp rfl); (· exact .tmp rfl))
    · exact (show GotF B _ [own 5 1 none 0 0 (cb [])] from ⟨none, 0, [], by rw [e]; rfl, rfl, rfl, by rw [e]; exact Nat.le_refl _, by rw [e]; rfl, fun _ => rfl⟩)
    · exact selA
  refine wk ?_
  refine CX.callA (send_c) ?_
  rintro _ _ ⟨rfl, rfl⟩
  refine wk ?_
  refine CX.callA (spget_c r 120 8 B hB (by omega) (by omega)) ?_ (hpre := by exact full_rdx hB (by first | exact pickA | exact updA))
  rintro _ _ ⟨rfl, rfl⟩
  rw [show (B.drop 120).take 8 = B.drop 120 from List.take_of_length_le (by simp; omega)]
  refine wk ?_
  refine CX.ps (PS.not64 (ofLe (B.take 8)) hl8 rfl rfl) ?_
  rw [show 18446744073709551615 - ofLe (B.take 8) = top - ofLe (B.take 8) from rfl]
  by_cases h2 : ofLe (B.drop 120) = top - ofLe (B.take 8)
  · refine wk ?_
    refine CX.callA (scheck_c) ?_
    rintro _ _ ⟨rfl, rfl⟩
    refine wk ?_
    refine CX.callA (spget_c r 116 4 B hB (by omega) (by omega)) ?_ (hpre := by exact full_rdx hB (by first | exact pickA | exact updA))
    rintro _ _ ⟨rfl, rfl⟩
    refine wk ?_
    refine CX.callA (ssum_c r B hB) ?_ (hpre := by exact full_rdx hB (by first | exact pickA | exact updA))
    rintro _ _ ⟨rfl, rfl⟩
    by_cases h3 : ofLe ((B.drop 116).take 4) = crcM (B.take 116)
    · have e : getM B = (ofLe (B.take 8), (B.drop 8).take 108, 0) := by unfold getM; rw [if_neg (by omega), if_neg (by omega)]
      have hl : ((B.drop 8).take 108).length = 108 := by simp; omega
      refine wk ?_
      refine CX.buildSl0 ?_
      intro s
      refine wk ?_
      refine CX.callA (sinner_c) ?_
      rintro _ _ ⟨rfl, rfl⟩
      refine wk ?_
      refine CX.callA (spof_c r 8 108 (by omega) (by omega)) ?_
      rintro _ _ ⟨rfl, rfl⟩
      refine wk ?_
      refine CX.appendF (C := (B.drop 8).take 108) hl (by omega) (by omega) (RdS.pick (t := 59) (cs := cb B) (by first | exact pickA | exact updA) (by simp; omega) (one_cb _) (by rw [cb_drop, cb_take])) ?_
      intro q cap Z hq1 hq2 hq3
      refine wk ?_
      (apply CQ.end3; (· rfl); (· exact .tmp rfl); (· exact .tmp rfl); (· exact .tmp rfl))
      · exact (show GotF B _ [own 5 1 (some ⟨q, 0, none⟩) cap cap (cb Z)] from ⟨some ⟨q, 0, none⟩, cap, Z, by rw [e]; dsimp only; rw [hl], rfl, hq2, by rw [e]; dsimp only; omega, by rw [e]; dsimp only; rw [hl]; exact hq3, fun h => by cases h⟩)
      · exact selA
    · have e : getM B = (0, [], 6) := by unfold getM; rw [if_neg (by omega), if_pos h3]
      refine wk ?_
      refine CQ.ownNil 5 1 ?_
      (apply CQ.end3; (· rfl); (· exact .tmp rfl); (· exact .tmp rfl); (· exact .tmp rfl))
      · exact (show GotF B _ [own 5 1 none 0 0 (cb [])] from ⟨none, 0, [], by rw [e]; rfl, rfl, rfl, by rw [e]; exact Nat.le_refl _, by rw [e]; rfl, fun _ => rfl⟩)
      · exact selA
  · have e : getM B = (0, [], 5) := by unfold getM; rw [if_pos (.inr h2)]
    refine wk ?_
    refine CQ.ownNil 5 1 ?_
    (apply CQ.end3; (· rfl); (· exact .tmp rfl); (· exact .tmp rfl); (· exact .tmp rfl))
    · exact (show GotF B _ [own 5 1 none 0 0 (cb [])] from ⟨none, 0, [], by rw [e]; rfl, rfl, rfl, by rw [e]; exact Nat.le_refl _, by rw [e]; rfl, fun _ => rfl⟩)
    · exact selA
theorem sget_c (B : Blk) (hB : WB B) : Ctr Tryz.prog 164 [.agg (cb B).toArray] [] (fun _ => True) (GotM B) :=
  (sgetF_c B hB).conseq fun v M ⟨a, c, Z, hv, hM, h1, h2, h3, _⟩ => ⟨_, ⟨a, c, hv, rfl⟩, fun x h hs => by
    subst hM
    have := own_front h2 h1 hs
    rw [h3] at this; exact this⟩
theorem snumbers_c (A B : Blk) (hA : WB A) (hB : WB B) : Ctr Tryz.prog 192 [.agg (cb A).toArray, .agg (cb B).toArray] [] (fun _ => True) (fun v M => v = .tuple #[.int .u64 ((getM A).1 : Int), .int .u64 ((getM B).1 : Int)] ∧ M = []) := by
  refine Ctr.intro Tryz.func192 rfl Tryz.ntmps192 rfl fun x w hp => ?_
  refine wk ?_
  (refine CX.boxA ?_; intro r)
  refine wk ?_
  (refine CX.boxA ?_; intro s)
  refine wk ?_
  ((apply CX.ps; (· apply PS.loadG (vs := cb (A)); (· rfl); (· rfl); (· exact CellsAt.all (by first | exact pickA | exact updA)); (· exact hA.len))))
  refine CX.callA (sget_c A hA) ?_
  rintro _ _ ⟨a, c, rfl, rfl⟩
  refine wk ?_
  ((apply CX.ps; (· apply PS.loadG (vs := cb (B)); (· rfl); (· rfl); (· exact CellsAt.all (by first | exact pickA | exact updA)); (· exact hB.len))))
  refine CX.callA (sget_c B hB) ?_
  rintro _ _ ⟨a', c', rfl, rfl⟩
  refine wk ?_
  (apply CQ.end2; (· rfl); (· exact .tmp rfl); (· exact .tmp rfl))
  · exact ⟨rfl, rfl⟩
  · exact selA
theorem snewest_c (A B : Blk) (hA : WB A) (hB : WB B) : Ctr Tryz.prog 178 [.agg (cb A).toArray, .agg (cb B).toArray] [] (fun _ => True) (fun v M => v = .tuple #[.int .i64 (newestM A B).1, .int .i64 (newestM A B).2] ∧ M = []) := by
  have hn := getM_lt A
  have hm := getM_lt B
  refine Ctr.intro Tryz.func178 rfl Tryz.ntmps178 rfl fun x w hp => ?_
  refine wk ?_
  (refine CX.boxA ?_; intro r)
  refine wk ?_
  (refine CX.boxA ?_; intro s)
  refine wk ?_
  ((apply CX.ps; (· apply PS.loadG (vs := cb (A)); (· rfl); (· rfl); (· exact CellsAt.all (by first | exact pickA | exact updA)); (· exact hA.len))))
  ((apply CX.ps; (· apply PS.loadG (vs := cb (B)); (· rfl); (· rfl); (· exact CellsAt.all (by first | exact pickA | exact updA)); (· exact hB.len))))
  refine CX.callA (snumbers_c A B hA hB) ?_
  rintro _ _ ⟨rfl, rfl⟩
  refine wk ?_
  refine CX.ps (PS.orN (k := .u64) (getM A).1 (getM B).1 rfl hn hm rfl rfl rfl) ?_
  by_cases h1 : (getM A).1 = 0 ∧ (getM B).1 = 0
  · have e : newestM A B = (0, 7) := by unfold newestM; rw [if_pos h1]
    rw [or_zero h1]
    refine wk ?_
    rw [e]
    (apply CQ.end2; (· rfl); (· exact .tmp rfl); (· exact .tmp rfl))
    · exact ⟨rfl, rfl⟩
    · exact selA
  have h3 := or_nz h1
  generalize (getM A).1 ||| (getM B).1 = q at h3
  by_cases h2 : (getM A).1 < (getM B).1
  · have e : newestM A B = (1, 0) := by unfold newestM; rw [if_neg h1, if_pos h2]
    refine wk ?_
    rw [e]
    (apply CQ.end2; (· rfl); (· exact .tmp rfl); (· exact .tmp rfl))
    · exact ⟨rfl, rfl⟩
    · exact selA
  · have e : newestM A B = (0, 0) := by unfold newestM; rw [if_neg h1, if_neg h2]
    refine wk ?_
    rw [e]
    (apply CQ.end2; (· rfl); (· exact .tmp rfl); (· exact .tmp rfl))
    · exact ⟨rfl, rfl⟩
    · exact selA
theorem snext_c (A B : Blk) (hA : WB A) (hB : WB B) : Ctr Tryz.prog 155 [.agg (cb A).toArray, .agg (cb B).toArray] [] (fun _ => True) (fun v M => v = .int .i64 (nextM A B) ∧ M = []) := by
  refine Ctr.intro Tryz.func155 rfl Tryz.ntmps155 rfl fun x w hp => ?_
  refine wk ?_
  (refine CX.boxA ?_; intro r)
  refine wk ?_
  (refine CX.boxA ?_; intro s)
  refine wk ?_
  ((apply CX.ps; (· apply PS.loadG (vs := cb (A)); (· rfl); (· rfl); (· exact CellsAt.all (by first | exact pickA | exact updA)); (· exact hA.len))))
  ((apply CX.ps; (· apply PS.loadG (vs := cb (B)); (· rfl); (· rfl); (· exact CellsAt.all (by first | exact pickA | exact updA)); (· exact hB.len))))
  by_cases h1 : (getM A).1 = 0 ∧ (getM B).1 = 0
  · have e : newestM A B = (0, 7) := by unfold newestM; rw [if_pos h1]
    have e2 : nextM A B = 0 := by unfold nextM; rw [if_pos h1]
    (have cc := snewest_c A B hA hB; simp only [e] at cc; refine CX.callA cc ?_; clear cc; rintro _ _ ⟨rfl, rfl⟩)
    refine wk ?_
    rw [e2]
    ((apply CQ.end1; (· rfl); (· exact .tmp rfl)); (· exact ⟨rfl, rfl⟩); (· exact selA))
  by_cases h2 : (getM A).1 < (getM B).1
  · have e : newestM A B = (1, 0) := by unfold newestM; rw [if_neg h1, if_pos h2]
    have e2 : nextM A B = 0 := by unfold nextM; rw [if_neg h1, if_pos h2]
    (have cc := snewest_c A B hA hB; simp only [e] at cc; refine CX.callA cc ?_; clear cc; rintro _ _ ⟨rfl, rfl⟩)
    refine wk ?_
    refine CX.ps (PS.xorI 1 1 (by decide) (by decide) rfl rfl rfl) ?_
    refine wk ?_
    rw [e2]
    ((apply CQ.end1; (· rfl); (· exact .tmp rfl)); (· exact ⟨rfl, rfl⟩); (· exact selA))
  · have e : newestM A B = (0, 0) := by unfold newestM; rw [if_neg h1, if_neg h2]
    have e2 : nextM A B = 1 := by unfold nextM; rw [if_neg h1, if_neg h2]
    (have cc := snewest_c A B hA hB; simp only [e] at cc; refine CX.callA cc ?_; clear cc; rintro _ _ ⟨rfl, rfl⟩)
    refine wk ?_
    refine CX.ps (PS.xorI 0 1 (by decide) (by decide) rfl rfl rfl) ?_
    refine wk ?_
    rw [e2]
    ((apply CQ.end1; (· rfl); (· exact .tmp rfl)); (· exact ⟨rfl, rfl⟩); (· exact selA))
end Go.Proofs.YtlckhaodecdbbaaGreatDoor
