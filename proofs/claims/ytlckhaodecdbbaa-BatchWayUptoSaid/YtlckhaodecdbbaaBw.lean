/- Changes between tables (batch.Between, Whole), a key's value (Find), in the program. Printed by bw.py (wip). -/
import Derived.Test.YtlckhaodecdbbaaL8
set_option linter.unusedVariables false
set_option linter.unusedSimpArgs false
namespace Go.Cx
/-- What Between lays for what is handed out. -/
def outB : Option (Nat × RwV) × Option (Nat × RwV) → List ChM
  | (some (_, x), none) => [⟨x.key, [], true⟩]
  | (none, some (_, y)) => [⟨y.key, y.s.b, false⟩]
  | (some (_, x), some (_, y)) => if x.s.b = y.s.b then [] else [⟨y.key, y.s.b, false⟩]
  | (none, none) => []
theorem out_between : ∀ (i : Nat) (t : List RwV) (j : Nat) (l : List RwV), ((mrg rwKey rwKey i t j l).map outB).flatten = betweenM (t.map RwV.m) (l.map RwV.m) := by
  intro i t j l
  induction i, t, j, l using mrg.induct (ka := rwKey) (kb := rwKey) with
  | case1 => rw [mrg]; simp [betweenM]
  | case2 i j x t ih =>
    rw [mrg, List.map_cons, List.flatten_cons, ih]
    simp only [List.map_nil, List.map_cons]
    rw [betweenM]; rfl
  | case3 i j y l ih =>
    rw [mrg, List.map_cons, List.flatten_cons, ih]
    simp only [List.map_nil, List.map_cons]
    rw [betweenM]; rfl
  | case4 i x t j y l hk ih =>
    rw [mrg, if_pos hk, List.map_cons, List.flatten_cons, ih]
    simp only [List.map_cons]
    rw [betweenM, if_pos (show klt x.m.1 y.m.1 = true from hk)]; rfl
  | case5 i x t j y l hk he ih =>
    rw [mrg, if_neg hk, if_pos he, List.map_cons, List.flatten_cons, ih]
    simp only [List.map_cons]
    rw [betweenM, if_neg (show ¬ klt x.m.1 y.m.1 = true from hk), if_pos (show x.m.1 = y.m.1 from he)]
    simp only [outB, RwV.m]
    by_cases hg : x.s.b = y.s.b <;> simp [hg]
  | case6 i x t j y l hk he ih =>
    rw [mrg, if_neg hk, if_neg he, List.map_cons, List.flatten_cons, ih]
    simp only [List.map_cons]
    rw [betweenM, if_neg (show ¬ klt x.m.1 y.m.1 = true from hk), if_neg (show ¬ x.m.1 = y.m.1 from he)]; rfl
theorem valC_nil {l : List ChV} {k : Blk} (h : PH) (s : (valC l).ok h) : (valC (l ++ [⟨k, ⟨none, [], 0⟩, true⟩])).ok h := valC_ok.2 fun r hr => by
  rcases List.mem_append.1 hr with hr | hr
  · exact valC_ok.1 s r hr
  · obtain rfl := List.mem_singleton.1 hr
    exact slb_nil h
end Go.Cx
namespace Go.Proofs.Ytlckhaodecdbbaa
open Go.Cx
attribute [local irreducible] Go.Cx.CX Go.Cx.CC Go.Cx.CQ Go.Cx.PS Go.Cx.Ctr Go.Cx.CH
set_option maxRecDepth 10000
theorem bequal_c (A B : Blk) (a b : Option Addr) (ca cb' : Nat) : Ctr Try.prog 125 [.slice a A.length ca, .slice b B.length cb'] [] (fun x => rdx a A.length (cb A) x ∧ rdx b B.length (cb B) x) (fun v M => v = .bool (decide (A = B)) ∧ M = []) := by
  refine Ctr.intro Try.func125 rfl Try.ntmps125 rfl fun x w hp => ?_
  repeat (first | refine CX.psA ?_ | refine CX.nil ?_ | refine CQ.thenN ?_ | refine CQ.thenR ?_ | refine CQ.thenX ?_ | refine CQ.blockN ?_ | refine CQ.blockR ?_ | refine CQ.blockX ?_ | refine CQ.blockYA ?_ | refine CC.seq ?_ | refine CC.block ?_ | refine CC.region ?_ | refine CC.skip ?_ | refine CC.ret ?_ | refine CC.exit ?_ | refine CC.condTA ?_ | refine CC.condFA ?_ | refine CC.condDTA ?_ | refine CC.condDFA ?_ | refine CX.storeA ?_ | refine CX.skipA ?_)
  refine CX.ps (PS.toStr rfl rfl rfl (rdx_ex (by repeat (first | exact .head _ | apply Pick.tail | apply Upd.tail)) hp.1)) ?_
  repeat (first | refine CX.psA ?_ | refine CX.nil ?_ | refine CQ.thenN ?_ | refine CQ.thenR ?_ | refine CQ.thenX ?_ | refine CQ.blockN ?_ | refine CQ.blockR ?_ | refine CQ.blockX ?_ | refine CQ.blockYA ?_ | refine CC.seq ?_ | refine CC.block ?_ | refine CC.region ?_ | refine CC.skip ?_ | refine CC.ret ?_ | refine CC.exit ?_ | refine CC.condTA ?_ | refine CC.condFA ?_ | refine CC.condDTA ?_ | refine CC.condDFA ?_ | refine CX.storeA ?_ | refine CX.skipA ?_)
  refine CX.ps (PS.toStr rfl rfl rfl (rdx_ex (by repeat (first | exact .head _ | apply Pick.tail | apply Upd.tail)) hp.2)) ?_
  refine CX.ps (PS.eqlStr rfl rfl rfl) ?_
  repeat (first | refine CX.psA ?_ | refine CX.nil ?_ | refine CQ.thenN ?_ | refine CQ.thenR ?_ | refine CQ.thenX ?_ | refine CQ.blockN ?_ | refine CQ.blockR ?_ | refine CQ.blockX ?_ | refine CQ.blockYA ?_ | refine CC.seq ?_ | refine CC.block ?_ | refine CC.region ?_ | refine CC.skip ?_ | refine CC.ret ?_ | refine CC.exit ?_ | refine CC.condTA ?_ | refine CC.condFA ?_ | refine CC.condDTA ?_ | refine CC.condDFA ?_ | refine CX.storeA ?_ | refine CX.skipA ?_)
  ((apply CQ.end1; (· rfl); (· exact .tmp rfl)); (· exact ⟨rfl, rfl⟩); (· repeat (first | exact Sel.nil _ | (apply Sel.cons; (· repeat (first | exact .head _ | apply Pick.tail | apply Upd.tail))))))
theorem mergR_c (t u : Value) (ht : t.cells = #[t]) (hu : u.cells = #[u]) : Ctr Try.prog 123 [t, u, .func (.func 124) #[] #[], .func (.func 124) #[] #[]] [] (fun _ => True)
    (fun v M => ∃ b1 b2 b3 b4, v = .func (.func 156) #[] #[.pointer (some ⟨b1, 0, none⟩), .pointer (some ⟨b2, 0, none⟩), .pointer (some ⟨b3, 0, none⟩), .pointer (some ⟨b4, 0, none⟩)] ∧
      M = [bk b1 99 [t], bk b2 99 [u], bk b3 162 [.func (.func 124) #[] #[]], bk b4 162 [.func (.func 124) #[] #[]]]) := by
  refine Ctr.intro Try.func123 rfl Try.ntmps123 rfl fun x w hp => ?_
  repeat (first | refine CX.psA ?_ | refine CX.nil ?_ | refine CQ.thenN ?_ | refine CQ.thenR ?_ | refine CQ.thenX ?_ | refine CQ.blockN ?_ | refine CQ.blockR ?_ | refine CQ.blockX ?_ | refine CQ.blockYA ?_ | refine CC.seq ?_ | refine CC.block ?_ | refine CC.region ?_ | refine CC.skip ?_ | refine CC.ret ?_ | refine CC.exit ?_ | refine CC.condTA ?_ | refine CC.condFA ?_ | refine CC.condDTA ?_ | refine CC.condDFA ?_ | refine CX.storeA ?_ | refine CX.skipA ?_)
  (apply CX.box; (· rfl); (· rfl); intro b1)
  (apply CX.box; (· rfl); (· rfl); intro b2)
  rw [ht, hu]
  (apply CX.box; (· rfl); (· rfl); intro b3)
  (apply CX.box; (· rfl); (· rfl); intro b4)
  repeat (first | refine CX.psA ?_ | refine CX.nil ?_ | refine CQ.thenN ?_ | refine CQ.thenR ?_ | refine CQ.thenX ?_ | refine CQ.blockN ?_ | refine CQ.blockR ?_ | refine CQ.blockX ?_ | refine CQ.blockYA ?_ | refine CC.seq ?_ | refine CC.block ?_ | refine CC.region ?_ | refine CC.skip ?_ | refine CC.ret ?_ | refine CC.exit ?_ | refine CC.condTA ?_ | refine CC.condFA ?_ | refine CC.condDTA ?_ | refine CC.condDFA ?_ | refine CX.storeA ?_ | refine CX.skipA ?_)
  (apply CQ.end1; (· rfl); (· exact .tmp rfl))
  · exact ⟨b1, b2, b3, b4, rfl, rfl⟩
  · repeat (first | exact Sel.nil _ | (apply Sel.cons; (· repeat (first | exact .head _ | apply Pick.tail | apply Upd.tail))))
def BetweenP (t l : List RwV) (v : Value) (M : List Assn) : Prop :=
  (¬ (MayR (t.map RwV.m) ∧ MayR (l.map RwV.m)) → v = .tuple #[.slice none 0 0, .int .i64 2] ∧ M = []) ∧
  (MayR (t.map RwV.m) ∧ MayR (l.map RwV.m) → ∃ a c r, r.map ChV.m = betweenM (t.map RwV.m) (l.map RwV.m) ∧ v = .tuple #[.slice a r.length c, .int .i64 0] ∧ M = [chsA a r] ∧ (a = none → r.length = 0 ∧ c = 0) ∧ r.length ≤ c ∧ r.length ≤ t.length + l.length)
theorem between_c (t l : List RwV) (ht : t.length ≤ 1073741824) (hl : l.length ≤ 1073741824) (a b : Option Addr) (ca cb' : Nat) (hca : t.length ≤ ca) (hcb : l.length ≤ cb') :
    Ctr Try.prog 66 [.slice a t.length ca, .slice b l.length cb'] [] (fun x => rwAt a t x ∧ rwAt b l x) (BetweenP t l) := by
  unfold BetweenP
  refine Ctr.introM Try.func66 rfl Try.ntmps66 rfl fun x w hp => ?_
  obtain ⟨hpa, hpb⟩ := hp
  repeat (first | refine CX.psA ?_ | refine CX.nil ?_ | refine CQ.thenN ?_ | refine CQ.thenR ?_ | refine CQ.thenX ?_ | refine CQ.blockN ?_ | refine CQ.blockR ?_ | refine CQ.blockX ?_ | refine CQ.blockYA ?_ | refine CC.seq ?_ | refine CC.block ?_ | refine CC.region ?_ | refine CC.skip ?_ | refine CC.ret ?_ | refine CC.exit ?_ | refine CC.condTA ?_ | refine CC.condFA ?_ | refine CC.condDTA ?_ | refine CC.condDFA ?_ | refine CX.storeA ?_ | refine CX.skipA ?_)
  refine CX.callA (mayR_c t (by omega) a ca) ?_ (hpre := by exact rw_ex (by repeat (first | exact .head _ | apply Pick.tail | apply Upd.tail)) hpa)
  by_cases hmt : MayR (t.map RwV.m)
  rotate_left
  · rw [decide_eq_false hmt]
    rintro _ _ ⟨rfl, rfl⟩
    repeat (first | refine CX.psA ?_ | refine CX.nil ?_ | refine CQ.thenN ?_ | refine CQ.thenR ?_ | refine CQ.thenX ?_ | refine CQ.blockN ?_ | refine CQ.blockR ?_ | refine CQ.blockX ?_ | refine CQ.blockYA ?_ | refine CC.seq ?_ | refine CC.block ?_ | refine CC.region ?_ | refine CC.skip ?_ | refine CC.ret ?_ | refine CC.exit ?_ | refine CC.condTA ?_ | refine CC.condFA ?_ | refine CC.condDTA ?_ | refine CC.condDFA ?_ | refine CX.storeA ?_ | refine CX.skipA ?_)
    refine CQ.endM2 rfl (.tmp rfl) (.tmp rfl) ⟨fun _ => ⟨rfl, rfl⟩, fun h => absurd h.1 hmt⟩ (by repeat (first | exact Sel.nil _ | (apply Sel.cons; (· repeat (first | exact .head _ | apply Pick.tail | apply Upd.tail)))))
  rw [decide_eq_true hmt]
  rintro _ _ ⟨rfl, rfl⟩
  repeat (first | refine CX.psA ?_ | refine CX.nil ?_ | refine CQ.thenN ?_ | refine CQ.thenR ?_ | refine CQ.thenX ?_ | refine CQ.blockN ?_ | refine CQ.blockR ?_ | refine CQ.blockX ?_ | refine CQ.blockYA ?_ | refine CC.seq ?_ | refine CC.block ?_ | refine CC.region ?_ | refine CC.skip ?_ | refine CC.ret ?_ | refine CC.exit ?_ | refine CC.condTA ?_ | refine CC.condFA ?_ | refine CC.condDTA ?_ | refine CC.condDFA ?_ | refine CX.storeA ?_ | refine CX.skipA ?_)
  refine CX.callA (mayR_c l (by omega) b cb') ?_ (hpre := by exact rw_ex (by repeat (first | exact .head _ | apply Pick.tail | apply Upd.tail)) hpb)
  by_cases hml : MayR (l.map RwV.m)
  rotate_left
  · rw [decide_eq_false hml]
    rintro _ _ ⟨rfl, rfl⟩
    repeat (first | refine CX.psA ?_ | refine CX.nil ?_ | refine CQ.thenN ?_ | refine CQ.thenR ?_ | refine CQ.thenX ?_ | refine CQ.blockN ?_ | refine CQ.blockR ?_ | refine CQ.blockX ?_ | refine CQ.blockYA ?_ | refine CC.seq ?_ | refine CC.block ?_ | refine CC.region ?_ | refine CC.skip ?_ | refine CC.ret ?_ | refine CC.exit ?_ | refine CC.condTA ?_ | refine CC.condFA ?_ | refine CC.condDTA ?_ | refine CC.condDFA ?_ | refine CX.storeA ?_ | refine CX.skipA ?_)
    refine CQ.endM2 rfl (.tmp rfl) (.tmp rfl) ⟨fun _ => ⟨rfl, rfl⟩, fun h => absurd h.2 hml⟩ (by repeat (first | exact Sel.nil _ | (apply Sel.cons; (· repeat (first | exact .head _ | apply Pick.tail | apply Upd.tail)))))
  rw [decide_eq_true hml]
  rintro _ _ ⟨rfl, rfl⟩
  repeat (first | refine CX.psA ?_ | refine CX.nil ?_ | refine CQ.thenN ?_ | refine CQ.thenR ?_ | refine CQ.thenX ?_ | refine CQ.blockN ?_ | refine CQ.blockR ?_ | refine CQ.blockX ?_ | refine CQ.blockYA ?_ | refine CC.seq ?_ | refine CC.block ?_ | refine CC.region ?_ | refine CC.skip ?_ | refine CC.ret ?_ | refine CC.exit ?_ | refine CC.condTA ?_ | refine CC.condFA ?_ | refine CC.condDTA ?_ | refine CC.condDFA ?_ | refine CX.storeA ?_ | refine CX.skipA ?_)
  refine CX.allocZ [.slice none 0 0] ?_ (hv := rfl)
  intro b6
  repeat (first | refine CX.psA ?_ | refine CX.nil ?_ | refine CQ.thenN ?_ | refine CQ.thenR ?_ | refine CQ.thenX ?_ | refine CQ.blockN ?_ | refine CQ.blockR ?_ | refine CQ.blockX ?_ | refine CQ.blockYA ?_ | refine CC.seq ?_ | refine CC.block ?_ | refine CC.region ?_ | refine CC.skip ?_ | refine CC.ret ?_ | refine CC.exit ?_ | refine CC.condTA ?_ | refine CC.condFA ?_ | refine CC.condDTA ?_ | refine CC.condDFA ?_ | refine CX.storeA ?_ | refine CX.skipA ?_)
  refine CX.callA (mergR_c (.slice a t.length ca) (.slice b l.length cb') rfl rfl) ?_
  rintro _ _ ⟨b1, b2, b3, b4, rfl, rfl⟩
  repeat (first | refine CX.psA ?_ | refine CX.nil ?_ | refine CQ.thenN ?_ | refine CQ.thenR ?_ | refine CQ.thenX ?_ | refine CQ.blockN ?_ | refine CQ.blockR ?_ | refine CQ.blockX ?_ | refine CQ.blockYA ?_ | refine CC.seq ?_ | refine CC.block ?_ | refine CC.region ?_ | refine CC.skip ?_ | refine CC.ret ?_ | refine CC.exit ?_ | refine CC.condTA ?_ | refine CC.condFA ?_ | refine CC.condDTA ?_ | refine CC.condDFA ?_ | refine CX.storeA ?_ | refine CX.skipA ?_)
  refine CC.ownNil 156 3 ?_
  refine CC.give (valC []) (fun _ => valC_ok.2 fun _ h => by cases h) ?_
  have hLl := mrg_len rwKey rwKey 0 t 0 l
  have hfact := mrg_fact rwKey rwKey 0 t 0 l
  have hall := out_between 0 t 0 l
  have It := itR_c t l ht hl a b ca cb' hca hcb b1 b2 b3 b4
  generalize mrg rwKey rwKey 0 t 0 l = Lm at *
  refine CC.range It rfl (fun k M => ∃ a1 c1 r, M = [bk b6 92 [.slice a1 r.length c1], own 156 3 a1 r.length c1 (rows ChV.cells r), valC r] ∧ r.map ChV.m = ((Lm.take k).map outB).flatten ∧ r.length ≤ k)
    (M0 := [bk b6 92 [.slice none 0 0], own 156 3 none 0 0 [], valC []]) ⟨none, 0, [], rfl, rfl, Nat.le_refl _⟩ (by repeat (first | exact Sel.nil _ | (apply Sel.cons; (· repeat (first | exact .head _ | apply Pick.tail | apply Upd.tail))))) (fun y hy => ⟨rw_ex (by repeat (first | exact .head _ | apply Pick.tail | apply Upd.tail)) hpa y hy, rw_ex (by repeat (first | exact .head _ | apply Pick.tail | apply Upd.tail)) hpb y hy⟩) (fun v hv => by
      obtain ⟨p, _, rfl⟩ := List.mem_map.1 hv; rfl) ?_ ?_
  · rintro ly ⟨st, pd, rfn, rtm, rps, ras, rbd, rdf⟩ k v M y e1 hk ⟨a1, c1, r, rfl, hr, hrk⟩ hst hpd hy
    dsimp only at hst hpd
    subst hst; subst hpd
    rw [List.getElem?_map, Option.map_eq_some_iff] at hk
    obtain ⟨p, hk, rfl⟩ := hk
    have hkl : k < Lm.length := (List.getElem?_eq_some_iff.1 hk).1
    have hpL : p ∈ Lm := List.mem_of_getElem? hk
    obtain ⟨hf1, hf2, hf3⟩ := hfact p hpL
    have hout : ((Lm.take (k + 1)).map outB).flatten = ((Lm.take k).map outB).flatten ++ outB p := by
      rw [List.take_succ_eq_append_getElem hkl, (List.getElem?_eq_some_iff.1 hk).2]; simp
    have hya : rwAt a t y := rw_ex (show Pick (exact x) _ _ from by repeat (first | exact .head _ | apply Pick.tail | apply Upd.tail)) hpa y hy
    have hyb : rwAt b l y := rw_ex (show Pick (exact x) _ _ from by repeat (first | exact .head _ | apply Pick.tail | apply Upd.tail)) hpb y hy
    clear hy
    obtain ⟨p1, p2⟩ := p
    cases p2 with
    | none =>
      cases p1 with
      | none => exact absurd ⟨rfl, rfl⟩ hf3
      | some q =>
        obtain ⟨n, z⟩ := q
        obtain ⟨m, rfl, hz⟩ := hf1 n z rfl
        obtain ⟨hm, rfl⟩ := List.getElem?_eq_some_iff.1 hz
        obtain ⟨ga, oa, rfl⟩ := rwAt_some hya (by omega)
        simp only [encM, Option.bind_some, Option.bind_none, atP_some, Nat.zero_add, putEs]
        repeat (first | refine CX.psA ?_ | refine CX.nil ?_ | refine CQ.thenRN ?_ | refine CQ.blockN ?_ | refine CQ.blockX ?_ | refine CR.seq ?_ | refine CR.block ?_ | refine CR.region ?_ | refine CR.skip ?_ | refine CR.condT ?_ | refine CR.condF ?_ | refine CR.condDT ?_ | refine CR.condDF ?_ | refine CX.storeA ?_ | refine CX.skipA ?_)
        refine CQ.begin rfl (by repeat (first | exact .head _ | apply Pick.tail | apply Upd.tail)) ?_
        repeat (first | refine CX.psA ?_ | refine CX.nil ?_ | refine CQ.thenRN ?_ | refine CQ.blockN ?_ | refine CQ.blockX ?_ | refine CR.seq ?_ | refine CR.block ?_ | refine CR.region ?_ | refine CR.skip ?_ | refine CR.condT ?_ | refine CR.condF ?_ | refine CR.condDT ?_ | refine CR.condDF ?_ | refine CX.storeA ?_ | refine CX.skipA ?_)
        refine CR.draw [(0, 1), (1, 0), (2, 0), (3, 0), (4, 1), (5, 0), (6, 2), (7, 2), (8, 3)] mixed rfl (by kernel_rfl) (by kernel_rfl) [bk b6 92 [.slice a1 r.length c1], exact y] ?_
        repeat (first | refine CH.pureA ?_ | refine CH.readA ?_ | refine CH.skA ?_ | refine CH.skCA ?_ | refine CH.nil ?_)
        (apply CH.read; (· rfl); (· apply PS.load (v := sv (t[m]).key); (· rfl); (· rfl); (· exact hya.cell (by repeat (first | exact .head _ | apply Pick.tail | apply Upd.tail)) hm 0 rfl)); (· repeat (first | exact Sel.nil _ | (apply Sel.cons; (· repeat (first | exact .head _ | apply Pick.tail | apply Upd.tail))))))
        refine CH.pure rfl (PS.build (vs := [(0, sv (t[m]).key), (2, .bool true)]) (out := [sv (t[m]).key, .slice none 0 0, .bool true]) rfl rfl rfl) ?_
        refine CH.chain rfl fun K hK => ?_
        refine CX.buildSl (parts := [(0, _)]) (vs := [(0, .agg #[sv (t[m]).key, .slice none 0 0, .bool true])]) (out := [sv (t[m]).key, .slice none 0 0, .bool true]) rfl rfl (by decide) (by simp [fillL, Value.cells, setL]) fun bq => ?_
        (refine CX.nil ?_; refine CQ.thenK ?_; apply hK; (· repeat (first | exact Sel.nil _ | (apply Sel.cons; (· repeat (first | exact .head _ | apply Pick.tail | apply Upd.tail))))); clear hK K)
        refine CH.chain rfl fun K hK => ?_
        refine CX.append (m := 1) (news := [sv (t[m]).key, .slice none 0 0, .bool true]) rfl rfl rfl (by repeat (first | exact .head _ | apply Pick.tail | apply Upd.tail)) (RdS.pick (b := bq) (o := 0) (by repeat (first | exact .head _ | apply Pick.tail | apply Upd.tail)) rfl (one_all rfl) rfl) (by omega) (fun h => by cases h) ?_
        intro a3 c3
        refine CX.turn (valC (r ++ [⟨(t[m]).key, ⟨none, [], 0⟩, true⟩])) valC_nil ?_
        (refine CX.nil ?_; refine CQ.thenK ?_; apply hK; (· repeat (first | exact Sel.nil _ | (apply Sel.cons; (· repeat (first | exact .head _ | apply Pick.tail | apply Upd.tail))))); clear hK K)
        refine CH.tail rfl rfl fun K hK => ?_
        refine CX.storeA ?_
        (refine CX.nil ?_; refine CQ.thenK ?_; apply hK; clear hK K)
        repeat (first | refine CH.pureA ?_ | refine CH.readA ?_ | refine CH.skA ?_ | refine CH.skCA ?_ | refine CH.nil ?_)
        repeat (first | refine CX.psA ?_ | refine CX.nil ?_ | refine CQ.thenRN ?_ | refine CQ.blockN ?_ | refine CQ.blockX ?_ | refine CR.seq ?_ | refine CR.block ?_ | refine CR.region ?_ | refine CR.skip ?_ | refine CR.condT ?_ | refine CR.condF ?_ | refine CR.condDT ?_ | refine CR.condDF ?_ | refine CX.storeA ?_ | refine CX.skipA ?_)
        refine CQ.endRound (by repeat (first | exact .head _ | apply Pick.tail | apply Upd.tail)) ⟨rfl, [bk b6 92 [.slice a3 (r.length + 1) c3], own 156 3 a3 (r.length + 1) c3 (rows ChV.cells r ++ [sv (t[m]).key, .slice none 0 0, .bool true]), valC (r ++ [⟨(t[m]).key, ⟨none, [], 0⟩, true⟩])], rfl, a3, c3, r ++ [⟨(t[m]).key, ⟨none, [], 0⟩, true⟩], by rw [List.length_append, rows_append]; rfl, by rw [hout, List.map_append, hr]; simp [outB, ChV.m], by simp only [List.length_append, List.length_singleton]; omega⟩ (by repeat (first | exact Sel.nil _ | (apply Sel.cons; (· repeat (first | exact .head _ | apply Pick.tail | apply Upd.tail)))))
    | some q =>
      obtain ⟨n, z⟩ := q
      obtain ⟨m, rfl, hz⟩ := hf2 n z rfl
      obtain ⟨hm, rfl⟩ := List.getElem?_eq_some_iff.1 hz
      obtain ⟨gb, ob', rfl⟩ := rwAt_some hyb (by omega)
      have hval : (l[m]).s.b.length ≤ 1073741824 := by
        have := (hml.2 (l[m]).m (List.mem_map_of_mem (List.getElem_mem hm))).2.2
        have e : (l[m]).m.2.length = (l[m]).s.b.length := rfl
        omega
      have hzs := hyb.2 l[m] (List.getElem_mem hm)
      cases p1 with
      | none =>
        simp only [encM, Option.bind_some, Option.bind_none, atP_some, Nat.zero_add, putEs]
        repeat (first | refine CX.psA ?_ | refine CX.nil ?_ | refine CQ.thenRN ?_ | refine CQ.blockN ?_ | refine CQ.blockX ?_ | refine CR.seq ?_ | refine CR.block ?_ | refine CR.region ?_ | refine CR.skip ?_ | refine CR.condT ?_ | refine CR.condF ?_ | refine CR.condDT ?_ | refine CR.condDF ?_ | refine CX.storeA ?_ | refine CX.skipA ?_)
        refine CQ.begin rfl (by repeat (first | exact .head _ | apply Pick.tail | apply Upd.tail)) ?_
        repeat (first | refine CX.psA ?_ | refine CX.nil ?_ | refine CQ.thenRN ?_ | refine CQ.blockN ?_ | refine CQ.blockX ?_ | refine CR.seq ?_ | refine CR.block ?_ | refine CR.region ?_ | refine CR.skip ?_ | refine CR.condT ?_ | refine CR.condF ?_ | refine CR.condDT ?_ | refine CR.condDF ?_ | refine CX.storeA ?_ | refine CX.skipA ?_)
        refine CR.draw [(0, 0), (1, 0), (2, 0), (3, 0), (4, 0), (5, 0), (6, 1), (7, 0), (8, 0), (9, 0), (10, 1), (11, 3), (12, 0), (13, 0), (14, 0)] mixed rfl (by kernel_rfl) (by kernel_rfl) [exact y] ?_
        repeat (first | refine CH.pureA ?_ | refine CH.readA ?_ | refine CH.skA ?_ | refine CH.skCA ?_ | refine CH.nil ?_)
        repeat (first | refine CX.psA ?_ | refine CX.nil ?_ | refine CQ.thenRN ?_ | refine CQ.blockN ?_ | refine CQ.blockX ?_ | refine CR.seq ?_ | refine CR.block ?_ | refine CR.region ?_ | refine CR.skip ?_ | refine CR.condT ?_ | refine CR.condF ?_ | refine CR.condDT ?_ | refine CR.condDF ?_ | refine CX.storeA ?_ | refine CX.skipA ?_)
        refine CR.draw [(0, 1), (1, 0), (2, 0), (3, 0), (4, 1), (5, 0), (6, 0), (7, 0), (8, 1), (9, 2), (10, 0), (11, 2), (12, 2), (13, 3)] mixed rfl (by kernel_rfl) (by kernel_rfl) [bk b6 92 [.slice a1 r.length c1], exact y] ?_
        repeat (first | refine CH.pureA ?_ | refine CH.readA ?_ | refine CH.skA ?_ | refine CH.skCA ?_ | refine CH.nil ?_)
        (apply CH.read; (· rfl); (· apply PS.load (v := sv (l[m]).key); (· rfl); (· rfl); (· exact hyb.cell (by repeat (first | exact .head _ | apply Pick.tail | apply Upd.tail)) hm 0 rfl)); (· repeat (first | exact Sel.nil _ | (apply Sel.cons; (· repeat (first | exact .head _ | apply Pick.tail | apply Upd.tail))))))
        repeat (first | refine CH.pureA ?_ | refine CH.readA ?_ | refine CH.skA ?_ | refine CH.skCA ?_ | refine CH.nil ?_)
        (apply CH.read; (· rfl); (· apply PS.load (v := .slice (l[m]).s.a (l[m]).s.b.length (l[m]).s.c); (· rfl); (· rfl); (· exact hyb.cell (by repeat (first | exact .head _ | apply Pick.tail | apply Upd.tail)) hm 1 rfl)); (· repeat (first | exact Sel.nil _ | (apply Sel.cons; (· repeat (first | exact .head _ | apply Pick.tail | apply Upd.tail))))))
        refine CH.chain rfl fun K hK => ?_
        refine CX.callA (clone_c (l[m]).s hval) ?_ (hpre := by exact fun z hz => (hzs).mono (Pick.ok (show Pick (exact y) _ _ from by repeat (first | exact .head _ | apply Pick.tail | apply Upd.tail)) hz))
        rintro _ _ ⟨a2, c2, rfl, rfl⟩
        (refine CX.nil ?_; refine CQ.thenK ?_; apply hK; (· repeat (first | exact Sel.nil _ | (apply Sel.cons; (· repeat (first | exact .head _ | apply Pick.tail | apply Upd.tail))))); clear hK K)
        refine CH.pure rfl (PS.build (vs := [(0, sv (l[m]).key), (1, .slice a2 (l[m]).s.b.length c2)]) (out := [sv (l[m]).key, .slice a2 (l[m]).s.b.length c2, .bool false]) rfl rfl rfl) ?_
        refine CH.chain rfl fun K hK => ?_
        refine CX.buildSl (parts := [(0, _)]) (vs := [(0, .agg #[sv (l[m]).key, .slice a2 (l[m]).s.b.length c2, .bool false])]) (out := [sv (l[m]).key, .slice a2 (l[m]).s.b.length c2, .bool false]) rfl rfl (by decide) (by simp [fillL, Value.cells, setL]) fun bq => ?_
        (refine CX.nil ?_; refine CQ.thenK ?_; apply hK; (· repeat (first | exact Sel.nil _ | (apply Sel.cons; (· repeat (first | exact .head _ | apply Pick.tail | apply Upd.tail))))); clear hK K)
        refine CH.chain rfl fun K hK => ?_
        refine CX.append (m := 1) (news := [sv (l[m]).key, .slice a2 (l[m]).s.b.length c2, .bool false]) rfl rfl rfl (by repeat (first | exact .head _ | apply Pick.tail | apply Upd.tail)) (RdS.pick (b := bq) (o := 0) (by repeat (first | exact .head _ | apply Pick.tail | apply Upd.tail)) rfl (one_all rfl) rfl) (by omega) (fun h => by cases h) ?_
        intro a3 c3
        refine CX.merge (valC (r ++ [⟨(l[m]).key, ⟨a2, (l[m]).s.b, c2⟩, false⟩])) valC_snoc ?_
        (refine CX.nil ?_; refine CQ.thenK ?_; apply hK; (· repeat (first | exact Sel.nil _ | (apply Sel.cons; (· repeat (first | exact .head _ | apply Pick.tail | apply Upd.tail))))); clear hK K)
        refine CH.tail rfl rfl fun K hK => ?_
        refine CX.storeA ?_
        (refine CX.nil ?_; refine CQ.thenK ?_; apply hK; clear hK K)
        repeat (first | refine CH.pureA ?_ | refine CH.readA ?_ | refine CH.skA ?_ | refine CH.skCA ?_ | refine CH.nil ?_)
        repeat (first | refine CX.psA ?_ | refine CX.nil ?_ | refine CQ.thenRN ?_ | refine CQ.blockN ?_ | refine CQ.blockX ?_ | refine CR.seq ?_ | refine CR.block ?_ | refine CR.region ?_ | refine CR.skip ?_ | refine CR.condT ?_ | refine CR.condF ?_ | refine CR.condDT ?_ | refine CR.condDF ?_ | refine CX.storeA ?_ | refine CX.skipA ?_)
        refine CQ.endRound (by repeat (first | exact .head _ | apply Pick.tail | apply Upd.tail)) ⟨rfl, [bk b6 92 [.slice a3 (r.length + 1) c3], own 156 3 a3 (r.length + 1) c3 (rows ChV.cells r ++ [sv (l[m]).key, .slice a2 (l[m]).s.b.length c2, .bool false]), valC (r ++ [⟨(l[m]).key, ⟨a2, (l[m]).s.b, c2⟩, false⟩])], rfl, a3, c3, r ++ [⟨(l[m]).key, ⟨a2, (l[m]).s.b, c2⟩, false⟩], by rw [List.length_append, rows_append]; rfl, by rw [hout, List.map_append, hr]; simp [outB, ChV.m], by simp only [List.length_append, List.length_singleton]; omega⟩ (by repeat (first | exact Sel.nil _ | (apply Sel.cons; (· repeat (first | exact .head _ | apply Pick.tail | apply Upd.tail)))))
      | some q' =>
        obtain ⟨n', z'⟩ := q'
        obtain ⟨m', rfl, hz'⟩ := hf1 n' z' rfl
        obtain ⟨hm', rfl⟩ := List.getElem?_eq_some_iff.1 hz'
        obtain ⟨ga, oa, rfl⟩ := rwAt_some hya (by omega)
        have hzs' := hya.2 t[m'] (List.getElem_mem hm')
        simp only [encM, Option.bind_some, atP_some, Nat.zero_add, putEs]
        by_cases hb : (t[m']).s.b = (l[m]).s.b
        · repeat (first | refine CX.psA ?_ | refine CX.nil ?_ | refine CQ.thenRN ?_ | refine CQ.blockN ?_ | refine CQ.blockX ?_ | refine CR.seq ?_ | refine CR.block ?_ | refine CR.region ?_ | refine CR.skip ?_ | refine CR.condT ?_ | refine CR.condF ?_ | refine CR.condDT ?_ | refine CR.condDF ?_ | refine CX.storeA ?_ | refine CX.skipA ?_)
          refine CQ.begin rfl (by repeat (first | exact .head _ | apply Pick.tail | apply Upd.tail)) ?_
          repeat (first | refine CX.psA ?_ | refine CX.nil ?_ | refine CQ.thenRN ?_ | refine CQ.blockN ?_ | refine CQ.blockX ?_ | refine CR.seq ?_ | refine CR.block ?_ | refine CR.region ?_ | refine CR.skip ?_ | refine CR.condT ?_ | refine CR.condF ?_ | refine CR.condDT ?_ | refine CR.condDF ?_ | refine CX.storeA ?_ | refine CX.skipA ?_)
          refine CR.draw [(0, 0), (1, 0), (2, 0), (3, 0), (4, 0), (5, 0), (6, 1), (7, 0), (8, 0), (9, 0), (10, 1), (11, 3), (12, 0), (13, 0), (14, 0)] mixed rfl (by kernel_rfl) (by kernel_rfl) [exact y] ?_
          repeat (first | refine CH.pureA ?_ | refine CH.readA ?_ | refine CH.skA ?_ | refine CH.skCA ?_ | refine CH.nil ?_)
          (apply CH.read; (· rfl); (· apply PS.load (v := .slice (t[m']).s.a (t[m']).s.b.length (t[m']).s.c); (· rfl); (· rfl); (· exact hya.cell (by repeat (first | exact .head _ | apply Pick.tail | apply Upd.tail)) hm' 1 rfl)); (· repeat (first | exact Sel.nil _ | (apply Sel.cons; (· repeat (first | exact .head _ | apply Pick.tail | apply Upd.tail))))))
          repeat (first | refine CH.pureA ?_ | refine CH.readA ?_ | refine CH.skA ?_ | refine CH.skCA ?_ | refine CH.nil ?_)
          (apply CH.read; (· rfl); (· apply PS.load (v := .slice (l[m]).s.a (l[m]).s.b.length (l[m]).s.c); (· rfl); (· rfl); (· exact hyb.cell (by repeat (first | exact .head _ | apply Pick.tail | apply Upd.tail)) hm 1 rfl)); (· repeat (first | exact Sel.nil _ | (apply Sel.cons; (· repeat (first | exact .head _ | apply Pick.tail | apply Upd.tail))))))
          refine CH.tail rfl rfl fun K hK => ?_
          refine CX.callA (bequal_c (t[m']).s.b (l[m]).s.b (t[m']).s.a (l[m]).s.a (t[m']).s.c (l[m]).s.c) ?_ (hpre := by exact fun z hz => ⟨rdx_ex (show Pick (exact y) _ _ from by repeat (first | exact .head _ | apply Pick.tail | apply Upd.tail)) hzs'.r z hz, rdx_ex (show Pick (exact y) _ _ from by repeat (first | exact .head _ | apply Pick.tail | apply Upd.tail)) hzs.r z hz⟩)
          rw [decide_eq_true hb]
          rintro _ _ ⟨rfl, rfl⟩
          (refine CX.nil ?_; refine CQ.thenK ?_; apply hK; clear hK K)
          repeat (first | refine CH.pureA ?_ | refine CH.readA ?_ | refine CH.skA ?_ | refine CH.skCA ?_ | refine CH.nil ?_)
          repeat (first | refine CX.psA ?_ | refine CX.nil ?_ | refine CQ.thenRN ?_ | refine CQ.blockN ?_ | refine CQ.blockX ?_ | refine CR.seq ?_ | refine CR.block ?_ | refine CR.region ?_ | refine CR.skip ?_ | refine CR.condT ?_ | refine CR.condF ?_ | refine CR.condDT ?_ | refine CR.condDF ?_ | refine CX.storeA ?_ | refine CX.skipA ?_)
          refine CQ.endRound (by repeat (first | exact .head _ | apply Pick.tail | apply Upd.tail)) ⟨rfl, [bk b6 92 [.slice a1 r.length c1], own 156 3 a1 r.length c1 (rows ChV.cells r), valC r], rfl, a1, c1, r, rfl, by rw [hout, hr]; simp [outB, hb], by omega⟩ (by repeat (first | exact Sel.nil _ | (apply Sel.cons; (· repeat (first | exact .head _ | apply Pick.tail | apply Upd.tail)))))
        · repeat (first | refine CX.psA ?_ | refine CX.nil ?_ | refine CQ.thenRN ?_ | refine CQ.blockN ?_ | refine CQ.blockX ?_ | refine CR.seq ?_ | refine CR.block ?_ | refine CR.region ?_ | refine CR.skip ?_ | refine CR.condT ?_ | refine CR.condF ?_ | refine CR.condDT ?_ | refine CR.condDF ?_ | refine CX.storeA ?_ | refine CX.skipA ?_)
          refine CQ.begin rfl (by repeat (first | exact .head _ | apply Pick.tail | apply Upd.tail)) ?_
          repeat (first | refine CX.psA ?_ | refine CX.nil ?_ | refine CQ.thenRN ?_ | refine CQ.blockN ?_ | refine CQ.blockX ?_ | refine CR.seq ?_ | refine CR.block ?_ | refine CR.region ?_ | refine CR.skip ?_ | refine CR.condT ?_ | refine CR.condF ?_ | refine CR.condDT ?_ | refine CR.condDF ?_ | refine CX.storeA ?_ | refine CX.skipA ?_)
          refine CR.draw [(0, 0), (1, 0), (2, 0), (3, 0), (4, 0), (5, 0), (6, 1), (7, 0), (8, 0), (9, 0), (10, 1), (11, 3), (12, 0), (13, 0), (14, 0)] mixed rfl (by kernel_rfl) (by kernel_rfl) [exact y] ?_
          repeat (first | refine CH.pureA ?_ | refine CH.readA ?_ | refine CH.skA ?_ | refine CH.skCA ?_ | refine CH.nil ?_)
          (apply CH.read; (· rfl); (· apply PS.load (v := .slice (t[m']).s.a (t[m']).s.b.length (t[m']).s.c); (· rfl); (· rfl); (· exact hya.cell (by repeat (first | exact .head _ | apply Pick.tail | apply Upd.tail)) hm' 1 rfl)); (· repeat (first | exact Sel.nil _ | (apply Sel.cons; (· repeat (first | exact .head _ | apply Pick.tail | apply Upd.tail))))))
          repeat (first | refine CH.pureA ?_ | refine CH.readA ?_ | refine CH.skA ?_ | refine CH.skCA ?_ | refine CH.nil ?_)
          (apply CH.read; (· rfl); (· apply PS.load (v := .slice (l[m]).s.a (l[m]).s.b.length (l[m]).s.c); (· rfl); (· rfl); (· exact hyb.cell (by repeat (first | exact .head _ | apply Pick.tail | apply Upd.tail)) hm 1 rfl)); (· repeat (first | exact Sel.nil _ | (apply Sel.cons; (· repeat (first | exact .head _ | apply Pick.tail | apply Upd.tail))))))
          refine CH.tail rfl rfl fun K hK => ?_
          refine CX.callA (bequal_c (t[m']).s.b (l[m]).s.b (t[m']).s.a (l[m]).s.a (t[m']).s.c (l[m]).s.c) ?_ (hpre := by exact fun z hz => ⟨rdx_ex (show Pick (exact y) _ _ from by repeat (first | exact .head _ | apply Pick.tail | apply Upd.tail)) hzs'.r z hz, rdx_ex (show Pick (exact y) _ _ from by repeat (first | exact .head _ | apply Pick.tail | apply Upd.tail)) hzs.r z hz⟩)
          rw [decide_eq_false hb]
          rintro _ _ ⟨rfl, rfl⟩
          (refine CX.nil ?_; refine CQ.thenK ?_; apply hK; clear hK K)
          repeat (first | refine CH.pureA ?_ | refine CH.readA ?_ | refine CH.skA ?_ | refine CH.skCA ?_ | refine CH.nil ?_)
          repeat (first | refine CX.psA ?_ | refine CX.nil ?_ | refine CQ.thenRN ?_ | refine CQ.blockN ?_ | refine CQ.blockX ?_ | refine CR.seq ?_ | refine CR.block ?_ | refine CR.region ?_ | refine CR.skip ?_ | refine CR.condT ?_ | refine CR.condF ?_ | refine CR.condDT ?_ | refine CR.condDF ?_ | refine CX.storeA ?_ | refine CX.skipA ?_)
          refine CR.draw [(0, 1), (1, 0), (2, 0), (3, 0), (4, 1), (5, 0), (6, 0), (7, 0), (8, 1), (9, 2), (10, 0), (11, 2), (12, 2), (13, 3)] mixed rfl (by kernel_rfl) (by kernel_rfl) [bk b6 92 [.slice a1 r.length c1], exact y] ?_
          repeat (first | refine CH.pureA ?_ | refine CH.readA ?_ | refine CH.skA ?_ | refine CH.skCA ?_ | refine CH.nil ?_)
          (apply CH.read; (· rfl); (· apply PS.load (v := sv (l[m]).key); (· rfl); (· rfl); (· exact hyb.cell (by repeat (first | exact .head _ | apply Pick.tail | apply Upd.tail)) hm 0 rfl)); (· repeat (first | exact Sel.nil _ | (apply Sel.cons; (· repeat (first | exact .head _ | apply Pick.tail | apply Upd.tail))))))
          repeat (first | refine CH.pureA ?_ | refine CH.readA ?_ | refine CH.skA ?_ | refine CH.skCA ?_ | refine CH.nil ?_)
          (apply CH.read; (· rfl); (· apply PS.load (v := .slice (l[m]).s.a (l[m]).s.b.length (l[m]).s.c); (· rfl); (· rfl); (· exact hyb.cell (by repeat (first | exact .head _ | apply Pick.tail | apply Upd.tail)) hm 1 rfl)); (· repeat (first | exact Sel.nil _ | (apply Sel.cons; (· repeat (first | exact .head _ | apply Pick.tail | apply Upd.tail))))))
          refine CH.chain rfl fun K hK => ?_
          refine CX.callA (clone_c (l[m]).s hval) ?_ (hpre := by exact fun z hz => (hzs).mono (Pick.ok (show Pick (exact y) _ _ from by repeat (first | exact .head _ | apply Pick.tail | apply Upd.tail)) hz))
          rintro _ _ ⟨a2, c2, rfl, rfl⟩
          (refine CX.nil ?_; refine CQ.thenK ?_; apply hK; (· repeat (first | exact Sel.nil _ | (apply Sel.cons; (· repeat (first | exact .head _ | apply Pick.tail | apply Upd.tail))))); clear hK K)
          refine CH.pure rfl (PS.build (vs := [(0, sv (l[m]).key), (1, .slice a2 (l[m]).s.b.length c2)]) (out := [sv (l[m]).key, .slice a2 (l[m]).s.b.length c2, .bool false]) rfl rfl rfl) ?_
          refine CH.chain rfl fun K hK => ?_
          refine CX.buildSl (parts := [(0, _)]) (vs := [(0, .agg #[sv (l[m]).key, .slice a2 (l[m]).s.b.length c2, .bool false])]) (out := [sv (l[m]).key, .slice a2 (l[m]).s.b.length c2, .bool false]) rfl rfl (by decide) (by simp [fillL, Value.cells, setL]) fun bq => ?_
          (refine CX.nil ?_; refine CQ.thenK ?_; apply hK; (· repeat (first | exact Sel.nil _ | (apply Sel.cons; (· repeat (first | exact .head _ | apply Pick.tail | apply Upd.tail))))); clear hK K)
          refine CH.chain rfl fun K hK => ?_
          refine CX.append (m := 1) (news := [sv (l[m]).key, .slice a2 (l[m]).s.b.length c2, .bool false]) rfl rfl rfl (by repeat (first | exact .head _ | apply Pick.tail | apply Upd.tail)) (RdS.pick (b := bq) (o := 0) (by repeat (first | exact .head _ | apply Pick.tail | apply Upd.tail)) rfl (one_all rfl) rfl) (by omega) (fun h => by cases h) ?_
          intro a3 c3
          refine CX.merge (valC (r ++ [⟨(l[m]).key, ⟨a2, (l[m]).s.b, c2⟩, false⟩])) valC_snoc ?_
          (refine CX.nil ?_; refine CQ.thenK ?_; apply hK; (· repeat (first | exact Sel.nil _ | (apply Sel.cons; (· repeat (first | exact .head _ | apply Pick.tail | apply Upd.tail))))); clear hK K)
          refine CH.tail rfl rfl fun K hK => ?_
          refine CX.storeA ?_
          (refine CX.nil ?_; refine CQ.thenK ?_; apply hK; clear hK K)
          repeat (first | refine CH.pureA ?_ | refine CH.readA ?_ | refine CH.skA ?_ | refine CH.skCA ?_ | refine CH.nil ?_)
          repeat (first | refine CX.psA ?_ | refine CX.nil ?_ | refine CQ.thenRN ?_ | refine CQ.blockN ?_ | refine CQ.blockX ?_ | refine CR.seq ?_ | refine CR.block ?_ | refine CR.region ?_ | refine CR.skip ?_ | refine CR.condT ?_ | refine CR.condF ?_ | refine CR.condDT ?_ | refine CR.condDF ?_ | refine CX.storeA ?_ | refine CX.skipA ?_)
          refine CQ.endRound (by repeat (first | exact .head _ | apply Pick.tail | apply Upd.tail)) ⟨rfl, [bk b6 92 [.slice a3 (r.length + 1) c3], own 156 3 a3 (r.length + 1) c3 (rows ChV.cells r ++ [sv (l[m]).key, .slice a2 (l[m]).s.b.length c2, .bool false]), valC (r ++ [⟨(l[m]).key, ⟨a2, (l[m]).s.b, c2⟩, false⟩])], rfl, a3, c3, r ++ [⟨(l[m]).key, ⟨a2, (l[m]).s.b, c2⟩, false⟩], by rw [List.length_append, rows_append]; rfl, by rw [hout, List.map_append, hr]; simp [outB, ChV.m, hb], by simp only [List.length_append, List.length_singleton]; omega⟩ (by repeat (first | exact Sel.nil _ | (apply Sel.cons; (· repeat (first | exact .head _ | apply Pick.tail | apply Upd.tail)))))
  · rintro D M ⟨a1, c1, r, rfl, hr, hrk⟩
    rw [List.length_map] at hr hrk
    rw [List.take_length, hall] at hr
    repeat (first | refine CXD.ps ?_ | refine CXD.nil ?_ | refine QD.thenN ?_ | refine QD.thenR ?_ | refine QD.blockN ?_ | refine CD.seq ?_ | refine CD.region ?_ | refine CD.ret ?_)
    refine CQ.fact (own_none (e := 156) (sz := 3) (by repeat (first | exact .head _ | apply Pick.tail | apply Upd.tail))) ?_
    rintro ⟨hn1, hn2, hn3⟩
    refine CQ.merge (chsA a1 r) own_chs ?_
    refine CQ.endD2 rfl (by repeat (first | exact .head _ | apply Pick.tail | apply Upd.tail)) (.tmp rfl) (.tmp rfl) ⟨fun h => absurd ⟨hmt, hml⟩ h, fun _ => ⟨a1, c1, r, hr, rfl, rfl, hn1, hn2, by omega⟩⟩ (by repeat (first | exact Sel.nil _ | (apply Sel.cons; (· repeat (first | exact .head _ | apply Pick.tail | apply Upd.tail)))))
theorem whole_c (l : List RwV) (hl : l.length ≤ 1073741824) (b : Option Addr) (cb' : Nat) (hcb : l.length ≤ cb') :
    Ctr Try.prog 70 [.slice b l.length cb'] [] (fun x => rwAt b l x) (BetweenP [] l) := by
  refine Ctr.intro Try.func70 rfl Try.ntmps70 rfl fun x w hp => ?_
  repeat (first | refine CX.psA ?_ | refine CX.nil ?_ | refine CQ.thenN ?_ | refine CQ.thenR ?_ | refine CQ.thenX ?_ | refine CQ.blockN ?_ | refine CQ.blockR ?_ | refine CQ.blockX ?_ | refine CQ.blockYA ?_ | refine CC.seq ?_ | refine CC.block ?_ | refine CC.region ?_ | refine CC.skip ?_ | refine CC.ret ?_ | refine CC.exit ?_ | refine CC.condTA ?_ | refine CC.condFA ?_ | refine CC.condDTA ?_ | refine CC.condDFA ?_ | refine CX.storeA ?_ | refine CX.skipA ?_)
  refine CX.callA (between_c [] l (Nat.zero_le _) hl none b 0 cb' (Nat.le_refl _) hcb) ?_ (hpre := by exact fun y hy => ⟨⟨.inl rfl, fun _ h => by cases h⟩, rw_ex (show Pick (exact x) _ _ from by repeat (first | exact .head _ | apply Pick.tail | apply Upd.tail)) hp y hy⟩)
  rintro v M ⟨h1, h2⟩
  by_cases hm : MayR (([] : List RwV).map RwV.m) ∧ MayR (l.map RwV.m)
  · obtain ⟨a, c, r, e1, rfl, rfl, e2, e3, e4⟩ := h2 hm
    repeat (first | refine CX.psA ?_ | refine CX.nil ?_ | refine CQ.thenN ?_ | refine CQ.thenR ?_ | refine CQ.thenX ?_ | refine CQ.blockN ?_ | refine CQ.blockR ?_ | refine CQ.blockX ?_ | refine CQ.blockYA ?_ | refine CC.seq ?_ | refine CC.block ?_ | refine CC.region ?_ | refine CC.skip ?_ | refine CC.ret ?_ | refine CC.exit ?_ | refine CC.condTA ?_ | refine CC.condFA ?_ | refine CC.condDTA ?_ | refine CC.condDFA ?_ | refine CX.storeA ?_ | refine CX.skipA ?_)
    (apply CQ.end2; (· rfl); (· exact .tmp rfl); (· exact .tmp rfl))
    · exact ⟨fun h => absurd hm h, fun _ => ⟨a, c, r, e1, rfl, rfl, e2, e3, e4⟩⟩
    · repeat (first | exact Sel.nil _ | (apply Sel.cons; (· repeat (first | exact .head _ | apply Pick.tail | apply Upd.tail))))
  · obtain ⟨rfl, rfl⟩ := h1 hm
    repeat (first | refine CX.psA ?_ | refine CX.nil ?_ | refine CQ.thenN ?_ | refine CQ.thenR ?_ | refine CQ.thenX ?_ | refine CQ.blockN ?_ | refine CQ.blockR ?_ | refine CQ.blockX ?_ | refine CQ.blockYA ?_ | refine CC.seq ?_ | refine CC.block ?_ | refine CC.region ?_ | refine CC.skip ?_ | refine CC.ret ?_ | refine CC.exit ?_ | refine CC.condTA ?_ | refine CC.condFA ?_ | refine CC.condDTA ?_ | refine CC.condDFA ?_ | refine CX.storeA ?_ | refine CX.skipA ?_)
    (apply CQ.end2; (· rfl); (· exact .tmp rfl); (· exact .tmp rfl))
    · exact ⟨fun _ => ⟨rfl, rfl⟩, fun h => absurd h hm⟩
    · repeat (first | exact Sel.nil _ | (apply Sel.cons; (· repeat (first | exact .head _ | apply Pick.tail | apply Upd.tail))))
end Go.Proofs.Ytlckhaodecdbbaa
