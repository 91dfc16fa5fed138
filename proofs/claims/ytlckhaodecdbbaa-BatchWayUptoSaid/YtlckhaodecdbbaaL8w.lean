/- The statement BatchWay, in the program. -/
import Derived.Test.YtlckhaodecdbbaaBf
set_option linter.unusedVariables false
set_option linter.unusedSimpArgs false
namespace Go.Cx
theorem between_ok : ∀ (a b : Tab), (∀ r ∈ a, okR r) → (∀ r ∈ b, okR r) → ∀ c ∈ betweenM a b, c.ok := by
  have gone : ∀ {x : Blk × Blk}, okR x → (ChM.mk x.1 [] true).ok := fun h => ⟨h.1, h.2.1, Nat.zero_le _, fun _ => rfl⟩
  have laid : ∀ {x : Blk × Blk}, okR x → (ChM.mk x.1 x.2 false).ok := fun h => ⟨h.1, h.2.1, h.2.2, fun h => by cases h⟩
  intro a b
  induction a, b using betweenM.induct with
  | case1 => intro _ _ c hc; rw [betweenM] at hc; cases hc
  | case2 x a ih =>
    intro ha hb c hc
    rw [betweenM] at hc
    rcases List.mem_cons.1 hc with rfl | hc
    · exact gone (ha x (by simp))
    · exact ih (fun r hr => ha r (by simp [hr])) hb c hc
  | case3 y b ih =>
    intro ha hb c hc
    rw [betweenM] at hc
    rcases List.mem_cons.1 hc with rfl | hc
    · exact laid (hb y (by simp))
    · exact ih ha (fun r hr => hb r (by simp [hr])) c hc
  | case4 x a y b hk ih =>
    intro ha hb c hc
    rw [betweenM, if_pos hk] at hc
    rcases List.mem_cons.1 hc with rfl | hc
    · exact gone (ha x (by simp))
    · exact ih (fun r hr => ha r (by simp [hr])) hb c hc
  | case5 x a y b hk he hv ih =>
    intro ha hb c hc
    rw [betweenM, if_neg hk, if_pos he, if_pos hv] at hc
    exact ih (fun r hr => ha r (by simp [hr])) (fun r hr => hb r (by simp [hr])) c hc
  | case6 x a y b hk he hv ih =>
    intro ha hb c hc
    rw [betweenM, if_neg hk, if_pos he, if_neg hv] at hc
    rcases List.mem_cons.1 hc with rfl | hc
    · exact laid (hb y (by simp))
    · exact ih (fun r hr => ha r (by simp [hr])) (fun r hr => hb r (by simp [hr])) c hc
  | case7 x a y b hk he ih =>
    intro ha hb c hc
    rw [betweenM, if_neg hk, if_neg he] at hc
    rcases List.mem_cons.1 hc with rfl | hc
    · exact laid (hb y (by simp))
    · exact ih ha (fun r hr => hb r (by simp [hr])) c hc
theorem between_may {a b : Tab} (ha : MayR a) (hb : MayR b) : MayC (betweenM a b) := ⟨between_rising a b ha.1 hb.1, between_ok a b ha.2 hb.2⟩
theorem may_nil : MayR [] := ⟨.nil, fun _ h => by cases h⟩
def cntA (t : List RwV) (b : Tab) (i : Nat) : Nat := (((t.take i).map RwV.m).filter fun x => decide (val b x.1 ≠ some x.2)).length
def cntB (l : List RwV) (a : Tab) (i : Nat) : Nat := (((l.take i).map RwV.m).filter fun y => decide (val a y.1 = none)).length
theorem cntA_le (t : List RwV) (b : Tab) (i : Nat) : cntA t b i ≤ i := by
  unfold cntA
  refine Nat.le_trans (List.length_filter_le _ _) ?_
  simp; omega
theorem cntB_le (t : List RwV) (b : Tab) (i : Nat) : cntB t b i ≤ i := by
  unfold cntB
  refine Nat.le_trans (List.length_filter_le _ _) ?_
  simp; omega
theorem cntA_yes {t : List RwV} {b : Tab} {i : Nat} (h : i < t.length) (hv : val b (t[i]).key ≠ some (t[i]).s.b) : cntA t b (i + 1) = cntA t b i + 1 := by
  unfold cntA
  rw [List.take_succ_eq_append_getElem h, List.map_append, List.filter_append, List.length_append]
  have : decide (val b (t[i]).m.1 ≠ some (t[i]).m.2) = true := decide_eq_true hv
  simp only [List.map_cons, List.map_nil, List.filter_cons, this, if_true, List.filter_nil, List.length_cons, List.length_nil]
theorem cntA_no {t : List RwV} {b : Tab} {i : Nat} (h : i < t.length) (hv : val b (t[i]).key = some (t[i]).s.b) : cntA t b (i + 1) = cntA t b i := by
  unfold cntA
  rw [List.take_succ_eq_append_getElem h, List.map_append, List.filter_append, List.length_append]
  have : decide (val b (t[i]).m.1 ≠ some (t[i]).m.2) = false := decide_eq_false (fun hn => hn hv)
  simp only [List.map_cons, List.map_nil, List.filter_cons, this, List.filter_nil, List.length_nil, Bool.false_eq_true, if_false, Nat.add_zero]
theorem cntB_yes {t : List RwV} {b : Tab} {i : Nat} (h : i < t.length) (hv : val b (t[i]).key = none) : cntB t b (i + 1) = cntB t b i + 1 := by
  unfold cntB
  rw [List.take_succ_eq_append_getElem h, List.map_append, List.filter_append, List.length_append]
  have : decide (val b (t[i]).m.1 = none) = true := decide_eq_true hv
  simp only [List.map_cons, List.map_nil, List.filter_cons, this, if_true, List.filter_nil, List.length_cons, List.length_nil]
theorem cntB_no {t : List RwV} {b : Tab} {i : Nat} (h : i < t.length) (hv : val b (t[i]).key ≠ none) : cntB t b (i + 1) = cntB t b i := by
  unfold cntB
  rw [List.take_succ_eq_append_getElem h, List.map_append, List.filter_append, List.length_append]
  have : decide (val b (t[i]).m.1 = none) = false := decide_eq_false hv
  simp only [List.map_cons, List.map_nil, List.filter_cons, this, List.filter_nil, List.length_nil, Bool.false_eq_true, if_false, Nat.add_zero]
theorem cnt_all (t l : List RwV) (ht : Rising (t.map RwV.m)) (hl : Rising (l.map RwV.m)) : (betweenM (t.map RwV.m) (l.map RwV.m)).length = cntA t (l.map RwV.m) t.length + cntB l (t.map RwV.m) l.length := by
  unfold cntA cntB
  rw [List.take_length, List.take_length]; exact length_between _ _ ht hl
end Go.Cx
namespace Go.Proofs.Ytlckhaodecdbbaa
open Go.Cx
attribute [local irreducible] Go.Cx.CX Go.Cx.CC Go.Cx.CQ Go.Cx.PS Go.Cx.Ctr Go.Cx.CH
set_option maxRecDepth 10000
theorem way8_c (t l : List RwV) (ht : t.length ≤ 1048576) (hl : l.length ≤ 1048576) (a b : Option Addr) (ca cb' : Nat) (hca : t.length ≤ ca) (hcb : l.length ≤ cb') :
    Ctr Try.prog 17 [.slice a t.length ca, .slice b l.length cb'] [] (fun x => rwAt a t x ∧ rwAt b l x) (fun v M => v = .bool true ∧ M = []) := by
  refine Ctr.intro Try.func17 rfl Try.ntmps17 rfl fun x w hp => ?_
  obtain ⟨hpa, hpb⟩ := hp
  repeat (first | refine CX.psA ?_ | refine CX.nil ?_ | refine CQ.thenN ?_ | refine CQ.thenR ?_ | refine CQ.thenX ?_ | refine CQ.blockN ?_ | refine CQ.blockR ?_ | refine CQ.blockX ?_ | refine CQ.blockYA ?_ | refine CC.seq ?_ | refine CC.block ?_ | refine CC.region ?_ | refine CC.skip ?_ | refine CC.ret ?_ | refine CC.exit ?_ | refine CC.condTA ?_ | refine CC.condFA ?_ | refine CC.condDTA ?_ | refine CC.condDFA ?_ | refine CX.storeA ?_ | refine CX.skipA ?_)
  refine CX.callA (between_c t l (by omega) (by omega) a b ca cb' hca hcb) ?_ (hpre := by exact fun y hy => ⟨rw_ex (show Pick (exact x) _ _ from by repeat (first | exact .head _ | apply Pick.tail | apply Upd.tail)) hpa y hy, rw_ex (show Pick (exact x) _ _ from by repeat (first | exact .head _ | apply Pick.tail | apply Upd.tail)) hpb y hy⟩)
  rintro _ _ ⟨hbad, hgood⟩
  by_cases hmt : MayR (t.map RwV.m)
  rotate_left
  · obtain ⟨rfl, rfl⟩ := hbad (fun h => hmt h.1)
    repeat (first | refine CX.psA ?_ | refine CX.nil ?_ | refine CQ.thenN ?_ | refine CQ.thenR ?_ | refine CQ.thenX ?_ | refine CQ.blockN ?_ | refine CQ.blockR ?_ | refine CQ.blockX ?_ | refine CQ.blockYA ?_ | refine CC.seq ?_ | refine CC.block ?_ | refine CC.region ?_ | refine CC.skip ?_ | refine CC.ret ?_ | refine CC.exit ?_ | refine CC.condTA ?_ | refine CC.condFA ?_ | refine CC.condDTA ?_ | refine CC.condDFA ?_ | refine CX.storeA ?_ | refine CX.skipA ?_)
    refine CX.callA (mayR_c t (by omega) a ca) ?_ (hpre := by exact rw_ex (by repeat (first | exact .head _ | apply Pick.tail | apply Upd.tail)) hpa)
    rw [decide_eq_false hmt]
    rintro _ _ ⟨rfl, rfl⟩
    repeat (first | refine CX.psA ?_ | refine CX.nil ?_ | refine CQ.thenN ?_ | refine CQ.thenR ?_ | refine CQ.thenX ?_ | refine CQ.blockN ?_ | refine CQ.blockR ?_ | refine CQ.blockX ?_ | refine CQ.blockYA ?_ | refine CC.seq ?_ | refine CC.block ?_ | refine CC.region ?_ | refine CC.skip ?_ | refine CC.ret ?_ | refine CC.exit ?_ | refine CC.condTA ?_ | refine CC.condFA ?_ | refine CC.condDTA ?_ | refine CC.condDFA ?_ | refine CX.storeA ?_ | refine CX.skipA ?_)
    refine CX.callA (lives8_c) ?_
    rintro _ _ ⟨rfl, rfl⟩
    repeat (first | refine CX.psA ?_ | refine CX.nil ?_ | refine CQ.thenN ?_ | refine CQ.thenR ?_ | refine CQ.thenX ?_ | refine CQ.blockN ?_ | refine CQ.blockR ?_ | refine CQ.blockX ?_ | refine CQ.blockYA ?_ | refine CC.seq ?_ | refine CC.block ?_ | refine CC.region ?_ | refine CC.skip ?_ | refine CC.ret ?_ | refine CC.exit ?_ | refine CC.condTA ?_ | refine CC.condFA ?_ | refine CC.condDTA ?_ | refine CC.condDFA ?_ | refine CX.storeA ?_ | refine CX.skipA ?_)
    ((apply CQ.end1; (· rfl); (· exact .tmp rfl)); (· exact ⟨rfl, rfl⟩); (· repeat (first | exact Sel.nil _ | (apply Sel.cons; (· repeat (first | exact .head _ | apply Pick.tail | apply Upd.tail))))))
  by_cases hml : MayR (l.map RwV.m)
  rotate_left
  · obtain ⟨rfl, rfl⟩ := hbad (fun h => hml h.2)
    repeat (first | refine CX.psA ?_ | refine CX.nil ?_ | refine CQ.thenN ?_ | refine CQ.thenR ?_ | refine CQ.thenX ?_ | refine CQ.blockN ?_ | refine CQ.blockR ?_ | refine CQ.blockX ?_ | refine CQ.blockYA ?_ | refine CC.seq ?_ | refine CC.block ?_ | refine CC.region ?_ | refine CC.skip ?_ | refine CC.ret ?_ | refine CC.exit ?_ | refine CC.condTA ?_ | refine CC.condFA ?_ | refine CC.condDTA ?_ | refine CC.condDFA ?_ | refine CX.storeA ?_ | refine CX.skipA ?_)
    refine CX.callA (mayR_c t (by omega) a ca) ?_ (hpre := by exact rw_ex (by repeat (first | exact .head _ | apply Pick.tail | apply Upd.tail)) hpa)
    rw [decide_eq_true hmt]
    rintro _ _ ⟨rfl, rfl⟩
    repeat (first | refine CX.psA ?_ | refine CX.nil ?_ | refine CQ.thenN ?_ | refine CQ.thenR ?_ | refine CQ.thenX ?_ | refine CQ.blockN ?_ | refine CQ.blockR ?_ | refine CQ.blockX ?_ | refine CQ.blockYA ?_ | refine CC.seq ?_ | refine CC.block ?_ | refine CC.region ?_ | refine CC.skip ?_ | refine CC.ret ?_ | refine CC.exit ?_ | refine CC.condTA ?_ | refine CC.condFA ?_ | refine CC.condDTA ?_ | refine CC.condDFA ?_ | refine CX.storeA ?_ | refine CX.skipA ?_)
    refine CX.callA (mayR_c l (by omega) b cb') ?_ (hpre := by exact rw_ex (by repeat (first | exact .head _ | apply Pick.tail | apply Upd.tail)) hpb)
    rw [decide_eq_false hml]
    rintro _ _ ⟨rfl, rfl⟩
    repeat (first | refine CX.psA ?_ | refine CX.nil ?_ | refine CQ.thenN ?_ | refine CQ.thenR ?_ | refine CQ.thenX ?_ | refine CQ.blockN ?_ | refine CQ.blockR ?_ | refine CQ.blockX ?_ | refine CQ.blockYA ?_ | refine CC.seq ?_ | refine CC.block ?_ | refine CC.region ?_ | refine CC.skip ?_ | refine CC.ret ?_ | refine CC.exit ?_ | refine CC.condTA ?_ | refine CC.condFA ?_ | refine CC.condDTA ?_ | refine CC.condDFA ?_ | refine CX.storeA ?_ | refine CX.skipA ?_)
    refine CX.callA (lives8_c) ?_
    rintro _ _ ⟨rfl, rfl⟩
    repeat (first | refine CX.psA ?_ | refine CX.nil ?_ | refine CQ.thenN ?_ | refine CQ.thenR ?_ | refine CQ.thenX ?_ | refine CQ.blockN ?_ | refine CQ.blockR ?_ | refine CQ.blockX ?_ | refine CQ.blockYA ?_ | refine CC.seq ?_ | refine CC.block ?_ | refine CC.region ?_ | refine CC.skip ?_ | refine CC.ret ?_ | refine CC.exit ?_ | refine CC.condTA ?_ | refine CC.condFA ?_ | refine CC.condDTA ?_ | refine CC.condDFA ?_ | refine CX.storeA ?_ | refine CX.skipA ?_)
    ((apply CQ.end1; (· rfl); (· exact .tmp rfl)); (· exact ⟨rfl, rfl⟩); (· repeat (first | exact Sel.nil _ | (apply Sel.cons; (· repeat (first | exact .head _ | apply Pick.tail | apply Upd.tail))))))
  obtain ⟨a5, c5, r, hr, rfl, rfl, hn5, hk5, hl5⟩ := hgood ⟨hmt, hml⟩
  have hrl : r.length = cntA t (l.map RwV.m) t.length + cntB l (t.map RwV.m) l.length := by
    rw [← cnt_all t l hmt.1 hml.1, ← hr]; simp
  have hrm : MayC (r.map ChV.m) := by rw [hr]; exact between_may hmt hml
  clear hbad hgood
  repeat (first | refine CX.psA ?_ | refine CX.nil ?_ | refine CQ.thenN ?_ | refine CQ.thenR ?_ | refine CQ.thenX ?_ | refine CQ.blockN ?_ | refine CQ.blockR ?_ | refine CQ.blockX ?_ | refine CQ.blockYA ?_ | refine CC.seq ?_ | refine CC.block ?_ | refine CC.region ?_ | refine CC.skip ?_ | refine CC.ret ?_ | refine CC.exit ?_ | refine CC.condTA ?_ | refine CC.condFA ?_ | refine CC.condDTA ?_ | refine CC.condDFA ?_ | refine CX.storeA ?_ | refine CX.skipA ?_)
  refine CX.callA (mayR_c t (by omega) a ca) ?_ (hpre := by exact rw_ex (by repeat (first | exact .head _ | apply Pick.tail | apply Upd.tail)) hpa)
  rw [decide_eq_true hmt]
  rintro _ _ ⟨rfl, rfl⟩
  repeat (first | refine CX.psA ?_ | refine CX.nil ?_ | refine CQ.thenN ?_ | refine CQ.thenR ?_ | refine CQ.thenX ?_ | refine CQ.blockN ?_ | refine CQ.blockR ?_ | refine CQ.blockX ?_ | refine CQ.blockYA ?_ | refine CC.seq ?_ | refine CC.block ?_ | refine CC.region ?_ | refine CC.skip ?_ | refine CC.ret ?_ | refine CC.exit ?_ | refine CC.condTA ?_ | refine CC.condFA ?_ | refine CC.condDTA ?_ | refine CC.condDFA ?_ | refine CX.storeA ?_ | refine CX.skipA ?_)
  refine CX.callA (mayR_c l (by omega) b cb') ?_ (hpre := by exact rw_ex (by repeat (first | exact .head _ | apply Pick.tail | apply Upd.tail)) hpb)
  rw [decide_eq_true hml]
  rintro _ _ ⟨rfl, rfl⟩
  repeat (first | refine CX.psA ?_ | refine CX.nil ?_ | refine CQ.thenN ?_ | refine CQ.thenR ?_ | refine CQ.thenX ?_ | refine CQ.blockN ?_ | refine CQ.blockR ?_ | refine CQ.blockX ?_ | refine CQ.blockYA ?_ | refine CC.seq ?_ | refine CC.block ?_ | refine CC.region ?_ | refine CC.skip ?_ | refine CC.ret ?_ | refine CC.exit ?_ | refine CC.condTA ?_ | refine CC.condFA ?_ | refine CC.condDTA ?_ | refine CC.condDFA ?_ | refine CX.storeA ?_ | refine CX.skipA ?_)
  refine CC.loop (X := Nat) (fun i => [(8, .int .i64 (i : Int)), (7, .int .i64 (cntA t (l.map RwV.m) i : Int)), (0, .slice a t.length ca), (1, .slice b l.length cb'), (5, .slice a5 r.length c5), (6, .int .i64 0)])
    (fun i => [chsA a5 r, exact x]) (fun i => i ≤ t.length) (fun i => t.length - i) 0 (Nat.zero_le _) ⟨rfl, eqI (by simp [cntA]), rfl, rfl, rfl, rfl, trivial⟩ (by repeat (first | exact Sel.nil _ | (apply Sel.cons; (· repeat (first | exact .head _ | apply Pick.tail | apply Upd.tail))))) ?_
  intro i hi
  have hci := cntA_le t (l.map RwV.m) i
  by_cases h1 : i < t.length
  · obtain ⟨ga, oa, rfl⟩ := rwAt_some hpa (by omega)
    have hzs := hpa.2 t[i] (List.getElem_mem h1)
    repeat (first | refine CX.psA ?_ | refine CX.nil ?_ | refine CQ.thenN ?_ | refine CQ.thenR ?_ | refine CQ.thenX ?_ | refine CQ.blockN ?_ | refine CQ.blockR ?_ | refine CQ.blockX ?_ | refine CQ.blockYA ?_ | refine CC.seq ?_ | refine CC.block ?_ | refine CC.region ?_ | refine CC.skip ?_ | refine CC.ret ?_ | refine CC.exit ?_ | refine CC.condTA ?_ | refine CC.condFA ?_ | refine CC.condDTA ?_ | refine CC.condDFA ?_ | refine CX.storeA ?_ | refine CX.skipA ?_)
    (refine CX.indexA (i) ?_ ?_; (· exact h1))
    repeat (first | refine CX.psA ?_ | refine CX.nil ?_ | refine CQ.thenN ?_ | refine CQ.thenR ?_ | refine CQ.thenX ?_ | refine CQ.blockN ?_ | refine CQ.blockR ?_ | refine CQ.blockX ?_ | refine CQ.blockYA ?_ | refine CC.seq ?_ | refine CC.block ?_ | refine CC.region ?_ | refine CC.skip ?_ | refine CC.ret ?_ | refine CC.exit ?_ | refine CC.condTA ?_ | refine CC.condFA ?_ | refine CC.condDTA ?_ | refine CC.condDFA ?_ | refine CX.storeA ?_ | refine CX.skipA ?_)
    (apply CX.ps; (· apply PS.load (v := sv (t[i]).key); (· rfl); (· rfl); (· exact hpa.cell (by repeat (first | exact .head _ | apply Pick.tail | apply Upd.tail)) h1 0 rfl)))
    refine CX.callA (find_c l (by omega) hml b cb' (t[i]).key) ?_ (hpre := by exact rw_ex (by repeat (first | exact .head _ | apply Pick.tail | apply Upd.tail)) hpb)
    rintro _ _ ⟨a9, B, c9, d, rfl, rfl, hd1, hd2⟩
    cases d with
    | false =>
      have hy := cntA_yes (b := l.map RwV.m) h1 (by rw [hd2 rfl]; exact fun h => by cases h)
      repeat (first | refine CX.psA ?_ | refine CX.nil ?_ | refine CQ.thenN ?_ | refine CQ.thenR ?_ | refine CQ.thenX ?_ | refine CQ.blockN ?_ | refine CQ.blockR ?_ | refine CQ.blockX ?_ | refine CQ.blockYA ?_ | refine CC.seq ?_ | refine CC.block ?_ | refine CC.region ?_ | refine CC.skip ?_ | refine CC.ret ?_ | refine CC.exit ?_ | refine CC.condTA ?_ | refine CC.condFA ?_ | refine CC.condDTA ?_ | refine CC.condDFA ?_ | refine CX.storeA ?_ | refine CX.skipA ?_)
      exact CQ.round (i + 1) (by omega) (by omega) ⟨eqI (by simp), eqI (by rw [hy]; simp), rfl, rfl, rfl, rfl, trivial⟩ (by repeat (first | exact Sel.nil _ | (apply Sel.cons; (· repeat (first | exact .head _ | apply Pick.tail | apply Upd.tail)))))
    | true =>
      by_cases hB : B = (t[i]).s.b
      · have hy := cntA_no (b := l.map RwV.m) h1 (by rw [hd1 rfl, hB])
        repeat (first | refine CX.psA ?_ | refine CX.nil ?_ | refine CQ.thenN ?_ | refine CQ.thenR ?_ | refine CQ.thenX ?_ | refine CQ.blockN ?_ | refine CQ.blockR ?_ | refine CQ.blockX ?_ | refine CQ.blockYA ?_ | refine CC.seq ?_ | refine CC.block ?_ | refine CC.region ?_ | refine CC.skip ?_ | refine CC.ret ?_ | refine CC.exit ?_ | refine CC.condTA ?_ | refine CC.condFA ?_ | refine CC.condDTA ?_ | refine CC.condDFA ?_ | refine CX.storeA ?_ | refine CX.skipA ?_)
        (refine CX.indexA (i) ?_ ?_; (· exact h1))
        repeat (first | refine CX.psA ?_ | refine CX.nil ?_ | refine CQ.thenN ?_ | refine CQ.thenR ?_ | refine CQ.thenX ?_ | refine CQ.blockN ?_ | refine CQ.blockR ?_ | refine CQ.blockX ?_ | refine CQ.blockYA ?_ | refine CC.seq ?_ | refine CC.block ?_ | refine CC.region ?_ | refine CC.skip ?_ | refine CC.ret ?_ | refine CC.exit ?_ | refine CC.condTA ?_ | refine CC.condFA ?_ | refine CC.condDTA ?_ | refine CC.condDFA ?_ | refine CX.storeA ?_ | refine CX.skipA ?_)
        (apply CX.ps; (· apply PS.load (v := .slice (t[i]).s.a (t[i]).s.b.length (t[i]).s.c); (· rfl); (· rfl); (· exact hpa.cell (by repeat (first | exact .head _ | apply Pick.tail | apply Upd.tail)) h1 1 rfl)))
        refine CX.callA (same_c B (t[i]).s.b a9 (t[i]).s.a c9 (t[i]).s.c) ?_ (hpre := by exact fun y hy => ⟨rdx_own (e := 5) (by repeat (first | exact .head _ | apply Pick.tail | apply Upd.tail)) rfl y hy, rdx_ex (show Pick (exact x) _ _ from by repeat (first | exact .head _ | apply Pick.tail | apply Upd.tail)) hzs.r y hy⟩)
        rw [decide_eq_true hB]
        rintro _ _ ⟨rfl, rfl⟩
        repeat (first | refine CX.psA ?_ | refine CX.nil ?_ | refine CQ.thenN ?_ | refine CQ.thenR ?_ | refine CQ.thenX ?_ | refine CQ.blockN ?_ | refine CQ.blockR ?_ | refine CQ.blockX ?_ | refine CQ.blockYA ?_ | refine CC.seq ?_ | refine CC.block ?_ | refine CC.region ?_ | refine CC.skip ?_ | refine CC.ret ?_ | refine CC.exit ?_ | refine CC.condTA ?_ | refine CC.condFA ?_ | refine CC.condDTA ?_ | refine CC.condDFA ?_ | refine CX.storeA ?_ | refine CX.skipA ?_)
        exact CQ.round (i + 1) (by omega) (by omega) ⟨eqI (by simp), eqI (by rw [hy]), rfl, rfl, rfl, rfl, trivial⟩ (by repeat (first | exact Sel.nil _ | (apply Sel.cons; (· repeat (first | exact .head _ | apply Pick.tail | apply Upd.tail)))))
      · have hy := cntA_yes (b := l.map RwV.m) h1 (by rw [hd1 rfl]; exact fun h => hB (Option.some.inj h))
        repeat (first | refine CX.psA ?_ | refine CX.nil ?_ | refine CQ.thenN ?_ | refine CQ.thenR ?_ | refine CQ.thenX ?_ | refine CQ.blockN ?_ | refine CQ.blockR ?_ | refine CQ.blockX ?_ | refine CQ.blockYA ?_ | refine CC.seq ?_ | refine CC.block ?_ | refine CC.region ?_ | refine CC.skip ?_ | refine CC.ret ?_ | refine CC.exit ?_ | refine CC.condTA ?_ | refine CC.condFA ?_ | refine CC.condDTA ?_ | refine CC.condDFA ?_ | refine CX.storeA ?_ | refine CX.skipA ?_)
        (refine CX.indexA (i) ?_ ?_; (· exact h1))
        repeat (first | refine CX.psA ?_ | refine CX.nil ?_ | refine CQ.thenN ?_ | refine CQ.thenR ?_ | refine CQ.thenX ?_ | refine CQ.blockN ?_ | refine CQ.blockR ?_ | refine CQ.blockX ?_ | refine CQ.blockYA ?_ | refine CC.seq ?_ | refine CC.block ?_ | refine CC.region ?_ | refine CC.skip ?_ | refine CC.ret ?_ | refine CC.exit ?_ | refine CC.condTA ?_ | refine CC.condFA ?_ | refine CC.condDTA ?_ | refine CC.condDFA ?_ | refine CX.storeA ?_ | refine CX.skipA ?_)
        (apply CX.ps; (· apply PS.load (v := .slice (t[i]).s.a (t[i]).s.b.length (t[i]).s.c); (· rfl); (· rfl); (· exact hpa.cell (by repeat (first | exact .head _ | apply Pick.tail | apply Upd.tail)) h1 1 rfl)))
        refine CX.callA (same_c B (t[i]).s.b a9 (t[i]).s.a c9 (t[i]).s.c) ?_ (hpre := by exact fun y hy => ⟨rdx_own (e := 5) (by repeat (first | exact .head _ | apply Pick.tail | apply Upd.tail)) rfl y hy, rdx_ex (show Pick (exact x) _ _ from by repeat (first | exact .head _ | apply Pick.tail | apply Upd.tail)) hzs.r y hy⟩)
        rw [decide_eq_false hB]
        rintro _ _ ⟨rfl, rfl⟩
        repeat (first | refine CX.psA ?_ | refine CX.nil ?_ | refine CQ.thenN ?_ | refine CQ.thenR ?_ | refine CQ.thenX ?_ | refine CQ.blockN ?_ | refine CQ.blockR ?_ | refine CQ.blockX ?_ | refine CQ.blockYA ?_ | refine CC.seq ?_ | refine CC.block ?_ | refine CC.region ?_ | refine CC.skip ?_ | refine CC.ret ?_ | refine CC.exit ?_ | refine CC.condTA ?_ | refine CC.condFA ?_ | refine CC.condDTA ?_ | refine CC.condDFA ?_ | refine CX.storeA ?_ | refine CX.skipA ?_)
        exact CQ.round (i + 1) (by omega) (by omega) ⟨eqI (by simp), eqI (by rw [hy]; simp), rfl, rfl, rfl, rfl, trivial⟩ (by repeat (first | exact Sel.nil _ | (apply Sel.cons; (· repeat (first | exact .head _ | apply Pick.tail | apply Upd.tail)))))
  obtain rfl : i = t.length := by omega
  generalize hcA : cntA t (l.map RwV.m) t.length = nA at *
  repeat (first | refine CX.psA ?_ | refine CX.nil ?_ | refine CQ.thenN ?_ | refine CQ.thenR ?_ | refine CQ.thenX ?_ | refine CQ.blockN ?_ | refine CQ.blockR ?_ | refine CQ.blockX ?_ | refine CQ.blockYA ?_ | refine CC.seq ?_ | refine CC.block ?_ | refine CC.region ?_ | refine CC.skip ?_ | refine CC.ret ?_ | refine CC.exit ?_ | refine CC.condTA ?_ | refine CC.condFA ?_ | refine CC.condDTA ?_ | refine CC.condDFA ?_ | refine CX.storeA ?_ | refine CX.skipA ?_)
  refine CC.loop (X := Nat) (fun i => [(11, .int .i64 (i : Int)), (7, .int .i64 ((nA + cntB l (t.map RwV.m) i : Nat) : Int)), (0, .slice a t.length ca), (1, .slice b l.length cb'), (5, .slice a5 r.length c5), (6, .int .i64 0)])
    (fun i => [chsA a5 r, exact x]) (fun i => i ≤ l.length) (fun i => l.length - i) 0 (Nat.zero_le _) ⟨rfl, eqI (by simp [cntB]), rfl, rfl, rfl, rfl, trivial⟩ (by repeat (first | exact Sel.nil _ | (apply Sel.cons; (· repeat (first | exact .head _ | apply Pick.tail | apply Upd.tail))))) ?_
  intro i hi
  have hcb2 := cntB_le l (t.map RwV.m) i
  by_cases h1 : i < l.length
  · obtain ⟨gb, ob', rfl⟩ := rwAt_some hpb (by omega)
    repeat (first | refine CX.psA ?_ | refine CX.nil ?_ | refine CQ.thenN ?_ | refine CQ.thenR ?_ | refine CQ.thenX ?_ | refine CQ.blockN ?_ | refine CQ.blockR ?_ | refine CQ.blockX ?_ | refine CQ.blockYA ?_ | refine CC.seq ?_ | refine CC.block ?_ | refine CC.region ?_ | refine CC.skip ?_ | refine CC.ret ?_ | refine CC.exit ?_ | refine CC.condTA ?_ | refine CC.condFA ?_ | refine CC.condDTA ?_ | refine CC.condDFA ?_ | refine CX.storeA ?_ | refine CX.skipA ?_)
    (refine CX.indexA (i) ?_ ?_; (· exact h1))
    repeat (first | refine CX.psA ?_ | refine CX.nil ?_ | refine CQ.thenN ?_ | refine CQ.thenR ?_ | refine CQ.thenX ?_ | refine CQ.blockN ?_ | refine CQ.blockR ?_ | refine CQ.blockX ?_ | refine CQ.blockYA ?_ | refine CC.seq ?_ | refine CC.block ?_ | refine CC.region ?_ | refine CC.skip ?_ | refine CC.ret ?_ | refine CC.exit ?_ | refine CC.condTA ?_ | refine CC.condFA ?_ | refine CC.condDTA ?_ | refine CC.condDFA ?_ | refine CX.storeA ?_ | refine CX.skipA ?_)
    (apply CX.ps; (· apply PS.load (v := sv (l[i]).key); (· rfl); (· rfl); (· exact hpb.cell (by repeat (first | exact .head _ | apply Pick.tail | apply Upd.tail)) h1 0 rfl)))
    refine CX.callA (find_c t (by omega) hmt a ca (l[i]).key) ?_ (hpre := by exact rw_ex (by repeat (first | exact .head _ | apply Pick.tail | apply Upd.tail)) hpa)
    rintro _ _ ⟨a9, B, c9, d, rfl, rfl, hd1, hd2⟩
    cases d with
    | false =>
      have hy := cntB_yes (b := t.map RwV.m) h1 (hd2 rfl)
      repeat (first | refine CX.psA ?_ | refine CX.nil ?_ | refine CQ.thenN ?_ | refine CQ.thenR ?_ | refine CQ.thenX ?_ | refine CQ.blockN ?_ | refine CQ.blockR ?_ | refine CQ.blockX ?_ | refine CQ.blockYA ?_ | refine CC.seq ?_ | refine CC.block ?_ | refine CC.region ?_ | refine CC.skip ?_ | refine CC.ret ?_ | refine CC.exit ?_ | refine CC.condTA ?_ | refine CC.condFA ?_ | refine CC.condDTA ?_ | refine CC.condDFA ?_ | refine CX.storeA ?_ | refine CX.skipA ?_)
      exact CQ.round (i + 1) (by omega) (by omega) ⟨eqI (by simp), eqI (by rw [hy]; simp; omega), rfl, rfl, rfl, rfl, trivial⟩ (by repeat (first | exact Sel.nil _ | (apply Sel.cons; (· repeat (first | exact .head _ | apply Pick.tail | apply Upd.tail)))))
    | true =>
      have hy := cntB_no (b := t.map RwV.m) h1 (by rw [hd1 rfl]; exact fun h => by cases h)
      repeat (first | refine CX.psA ?_ | refine CX.nil ?_ | refine CQ.thenN ?_ | refine CQ.thenR ?_ | refine CQ.thenX ?_ | refine CQ.blockN ?_ | refine CQ.blockR ?_ | refine CQ.blockX ?_ | refine CQ.blockYA ?_ | refine CC.seq ?_ | refine CC.block ?_ | refine CC.region ?_ | refine CC.skip ?_ | refine CC.ret ?_ | refine CC.exit ?_ | refine CC.condTA ?_ | refine CC.condFA ?_ | refine CC.condDTA ?_ | refine CC.condDFA ?_ | refine CX.storeA ?_ | refine CX.skipA ?_)
      exact CQ.round (i + 1) (by omega) (by omega) ⟨eqI (by simp), eqI (by rw [hy]), rfl, rfl, rfl, rfl, trivial⟩ (by repeat (first | exact Sel.nil _ | (apply Sel.cons; (· repeat (first | exact .head _ | apply Pick.tail | apply Upd.tail)))))
  obtain rfl : i = l.length := by omega
  repeat (first | refine CX.psA ?_ | refine CX.nil ?_ | refine CQ.thenN ?_ | refine CQ.thenR ?_ | refine CQ.thenX ?_ | refine CQ.blockN ?_ | refine CQ.blockR ?_ | refine CQ.blockX ?_ | refine CQ.blockYA ?_ | refine CC.seq ?_ | refine CC.block ?_ | refine CC.region ?_ | refine CC.skip ?_ | refine CC.ret ?_ | refine CC.exit ?_ | refine CC.condTA ?_ | refine CC.condFA ?_ | refine CC.condDTA ?_ | refine CC.condDFA ?_ | refine CX.storeA ?_ | refine CX.skipA ?_)
  refine CX.callA (apply_c t r (by omega) (by omega) a a5 ca c5 hca hk5) ?_ (hpre := by exact fun y hy => ⟨rw_ex (show Pick (exact x) _ _ from by repeat (first | exact .head _ | apply Pick.tail | apply Upd.tail)) hpa y hy, ch_chs (by repeat (first | exact .head _ | apply Pick.tail | apply Upd.tail)) y hy⟩)
  rintro _ _ ⟨-, hap⟩
  obtain ⟨a6, c6, r6, hr6, rfl, rfl, hn6, hk6, hl6⟩ := hap ⟨hmt, hrm⟩
  rw [hr, apply_between _ _ hmt.1 hml.1] at hr6
  clear hap
  repeat (first | refine CX.psA ?_ | refine CX.nil ?_ | refine CQ.thenN ?_ | refine CQ.thenR ?_ | refine CQ.thenX ?_ | refine CQ.blockN ?_ | refine CQ.blockR ?_ | refine CQ.blockX ?_ | refine CQ.blockYA ?_ | refine CC.seq ?_ | refine CC.block ?_ | refine CC.region ?_ | refine CC.skip ?_ | refine CC.ret ?_ | refine CC.exit ?_ | refine CC.condTA ?_ | refine CC.condFA ?_ | refine CC.condDTA ?_ | refine CC.condDFA ?_ | refine CX.storeA ?_ | refine CX.skipA ?_)
  refine CX.callA (whole_c l (by omega) b cb' hcb) ?_ (hpre := by exact rw_ex (by repeat (first | exact .head _ | apply Pick.tail | apply Upd.tail)) hpb)
  rintro _ _ ⟨-, hwh⟩
  obtain ⟨a7, c7, r7, hr7, rfl, rfl, hn7, hk7, hl7⟩ := hwh ⟨may_nil, hml⟩
  clear hwh
  have hrm7 : MayC (r7.map ChV.m) := by rw [hr7]; exact between_may may_nil hml
  have hl7' : r7.length ≤ l.length := by simpa using hl7
  repeat (first | refine CX.psA ?_ | refine CX.nil ?_ | refine CQ.thenN ?_ | refine CQ.thenR ?_ | refine CQ.thenX ?_ | refine CQ.blockN ?_ | refine CQ.blockR ?_ | refine CQ.blockX ?_ | refine CQ.blockYA ?_ | refine CC.seq ?_ | refine CC.block ?_ | refine CC.region ?_ | refine CC.skip ?_ | refine CC.ret ?_ | refine CC.exit ?_ | refine CC.condTA ?_ | refine CC.condFA ?_ | refine CC.condDTA ?_ | refine CC.condDFA ?_ | refine CX.storeA ?_ | refine CX.skipA ?_)
  refine CX.callA (apply_c [] r7 (Nat.zero_le _) (by omega) none a7 0 c7 (Nat.le_refl _) hk7) ?_ (hpre := by exact fun y hy => ⟨⟨.inl rfl, fun _ h => by cases h⟩, ch_chs (by repeat (first | exact .head _ | apply Pick.tail | apply Upd.tail)) y hy⟩)
  rintro _ _ ⟨-, hap⟩
  obtain ⟨a8, c8, r8, hr8, rfl, rfl, hn8, hk8, hl8⟩ := hap ⟨may_nil, hrm7⟩
  rw [hr7, show List.map RwV.m [] = [] from rfl, apply_whole _ hml.1] at hr8
  clear hap
  have hl8' : r8.length ≤ r7.length := by simpa using hl8
  repeat (first | refine CX.psA ?_ | refine CX.nil ?_ | refine CQ.thenN ?_ | refine CQ.thenR ?_ | refine CQ.thenX ?_ | refine CQ.blockN ?_ | refine CQ.blockR ?_ | refine CQ.blockX ?_ | refine CQ.blockYA ?_ | refine CC.seq ?_ | refine CC.block ?_ | refine CC.region ?_ | refine CC.skip ?_ | refine CC.ret ?_ | refine CC.exit ?_ | refine CC.condTA ?_ | refine CC.condFA ?_ | refine CC.condDTA ?_ | refine CC.condDFA ?_ | refine CX.storeA ?_ | refine CX.skipA ?_)
  refine CX.callA (eqmR_c r6 l (by omega) a6 b c6 cb' (by omega)) ?_ (hpre := by exact fun y hy => ⟨rw_tab (by repeat (first | exact .head _ | apply Pick.tail | apply Upd.tail)) y hy, rw_ex (show Pick (exact x) _ _ from by repeat (first | exact .head _ | apply Pick.tail | apply Upd.tail)) hpb y hy⟩)
  rw [decide_eq_true hr6]
  rintro _ _ ⟨rfl, rfl⟩
  repeat (first | refine CX.psA ?_ | refine CX.nil ?_ | refine CQ.thenN ?_ | refine CQ.thenR ?_ | refine CQ.thenX ?_ | refine CQ.blockN ?_ | refine CQ.blockR ?_ | refine CQ.blockX ?_ | refine CQ.blockYA ?_ | refine CC.seq ?_ | refine CC.block ?_ | refine CC.region ?_ | refine CC.skip ?_ | refine CC.ret ?_ | refine CC.exit ?_ | refine CC.condTA ?_ | refine CC.condFA ?_ | refine CC.condDTA ?_ | refine CC.condDFA ?_ | refine CX.storeA ?_ | refine CX.skipA ?_)
  refine CX.callA (eqmR_c r8 l (by omega) a8 b c8 cb' (by omega)) ?_ (hpre := by exact fun y hy => ⟨rw_tab (by repeat (first | exact .head _ | apply Pick.tail | apply Upd.tail)) y hy, rw_ex (show Pick (exact x) _ _ from by repeat (first | exact .head _ | apply Pick.tail | apply Upd.tail)) hpb y hy⟩)
  rw [decide_eq_true hr8]
  rintro _ _ ⟨rfl, rfl⟩
  repeat (first | refine CX.psA ?_ | refine CX.nil ?_ | refine CQ.thenN ?_ | refine CQ.thenR ?_ | refine CQ.thenX ?_ | refine CQ.blockN ?_ | refine CQ.blockR ?_ | refine CQ.blockX ?_ | refine CQ.blockYA ?_ | refine CC.seq ?_ | refine CC.block ?_ | refine CC.region ?_ | refine CC.skip ?_ | refine CC.ret ?_ | refine CC.exit ?_ | refine CC.condTA ?_ | refine CC.condFA ?_ | refine CC.condDTA ?_ | refine CC.condDFA ?_ | refine CX.storeA ?_ | refine CX.skipA ?_)
  refine CX.callA (lives8_c) ?_
  rintro _ _ ⟨rfl, rfl⟩
  repeat (first | refine CX.psA ?_ | refine CX.nil ?_ | refine CQ.thenN ?_ | refine CQ.thenR ?_ | refine CQ.thenX ?_ | refine CQ.blockN ?_ | refine CQ.blockR ?_ | refine CQ.blockX ?_ | refine CQ.blockYA ?_ | refine CC.seq ?_ | refine CC.block ?_ | refine CC.region ?_ | refine CC.skip ?_ | refine CC.ret ?_ | refine CC.exit ?_ | refine CC.condTA ?_ | refine CC.condFA ?_ | refine CC.condDTA ?_ | refine CC.condDFA ?_ | refine CX.storeA ?_ | refine CX.skipA ?_)
  ((apply CQ.end1; (· rfl); (· exact .tmp rfl)); (· exact ⟨rfl, rfl⟩); (· repeat (first | exact Sel.nil _ | (apply Sel.cons; (· repeat (first | exact .head _ | apply Pick.tail | apply Upd.tail))))))
end Go.Proofs.Ytlckhaodecdbbaa
