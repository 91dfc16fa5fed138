/- A key's value (batch.Find), in the program. -/
import Derived.Test.YtlckhaodecdbbaaBw
set_option linter.unusedVariables false
set_option linter.unusedSimpArgs false
namespace Go.Cx
theorem ris_at {l : List RwV} (h : Rising (l.map RwV.m)) {i j : Nat} (hij : i < j) (hj : j < l.length) : klt (l[i]'(by omega)).key (l[j]).key = true :=
  List.pairwise_iff_getElem.1 ((risR_iff l).1 h) i j (by omega) hj hij
theorem cmp_neg {a b : Blk} : cmpZ a b < 0 ↔ klt a b = true := by
  unfold cmpZ
  by_cases h : klt a b = true
  · simp [h]
  · simp only [if_neg h]; constructor
    · intro hh; split at hh <;> omega
    · intro hh; exact absurd hh h
theorem cmp_zero {a b : Blk} : cmpZ a b = 0 ↔ a = b := by
  unfold cmpZ
  by_cases h : klt a b = true
  · rw [if_pos h]; constructor
    · intro hh; omega
    · intro e; rw [e, klt_irr] at h; cases h
  · rw [if_neg h]
    by_cases e : a = b
    · simp [e]
    · simp [e]
theorem val_none {t : Tab} {k : Blk} (h : ∀ x ∈ t, x.1 ≠ k) : val t k = none := by
  cases hv : val t k with
  | none => rfl
  | some v => exact absurd rfl (h _ (mem_val hv))
end Go.Cx
namespace Go.Proofs.Ytlckhaodecdbbaa
open Go.Cx
attribute [local irreducible] Go.Cx.CX Go.Cx.CC Go.Cx.CQ Go.Cx.PS Go.Cx.Ctr Go.Cx.CH
set_option maxRecDepth 10000
theorem bf1_c (r : RwV) (k : Blk) : Ctr Try.prog 133 [.agg r.cells.toArray, sv k] [] (fun _ => True) (fun v M => v = .int .i64 (cmpZ r.key k) ∧ M = []) := by
  refine Ctr.intro Try.func133 rfl Try.ntmps133 rfl fun x w hp => ?_
  repeat (first | refine CX.psA ?_ | refine CX.nil ?_ | refine CQ.thenN ?_ | refine CQ.thenR ?_ | refine CQ.thenX ?_ | refine CQ.blockN ?_ | refine CQ.blockR ?_ | refine CQ.blockX ?_ | refine CQ.blockYA ?_ | refine CC.seq ?_ | refine CC.block ?_ | refine CC.region ?_ | refine CC.skip ?_ | refine CC.ret ?_ | refine CC.exit ?_ | refine CC.condTA ?_ | refine CC.condFA ?_ | refine CC.condDTA ?_ | refine CC.condDFA ?_ | refine CX.storeA ?_ | refine CX.skipA ?_)
  (refine CX.boxA (vs := r.cells) ?_; intro b)
  repeat (first | refine CX.psA ?_ | refine CX.nil ?_ | refine CQ.thenN ?_ | refine CQ.thenR ?_ | refine CQ.thenX ?_ | refine CQ.blockN ?_ | refine CQ.blockR ?_ | refine CQ.blockX ?_ | refine CQ.blockYA ?_ | refine CC.seq ?_ | refine CC.block ?_ | refine CC.region ?_ | refine CC.skip ?_ | refine CC.ret ?_ | refine CC.exit ?_ | refine CC.condTA ?_ | refine CC.condFA ?_ | refine CC.condDTA ?_ | refine CC.condDFA ?_ | refine CX.storeA ?_ | refine CX.skipA ?_)
  refine CX.callA (cmp_c r.key k) ?_
  rintro _ _ ⟨rfl, rfl⟩
  repeat (first | refine CX.psA ?_ | refine CX.nil ?_ | refine CQ.thenN ?_ | refine CQ.thenR ?_ | refine CQ.thenX ?_ | refine CQ.blockN ?_ | refine CQ.blockR ?_ | refine CQ.blockX ?_ | refine CQ.blockYA ?_ | refine CC.seq ?_ | refine CC.block ?_ | refine CC.region ?_ | refine CC.skip ?_ | refine CC.ret ?_ | refine CC.exit ?_ | refine CC.condTA ?_ | refine CC.condFA ?_ | refine CC.condDTA ?_ | refine CC.condDFA ?_ | refine CX.storeA ?_ | refine CX.skipA ?_)
  ((apply CQ.end1; (· rfl); (· exact .tmp rfl)); (· exact ⟨rfl, rfl⟩); (· repeat (first | exact Sel.nil _ | (apply Sel.cons; (· repeat (first | exact .head _ | apply Pick.tail | apply Upd.tail))))))
theorem bs_c (l : List RwV) (hl : l.length ≤ 1073741824) (hR : Rising (l.map RwV.m)) (a : Option Addr) (cap : Nat) (k : Blk) : Ctr Try.prog 132 [.slice a l.length cap, sv k, .func (.func 133) #[] #[]] [] (fun x => rwAt a l x)
    (fun v M => ∃ (i : Nat) (d : Bool), v = .tuple #[.int .i64 (i : Int), .bool d] ∧ M = [] ∧ (d = true → ∃ h : i < l.length, (l[i]).key = k) ∧ (d = false → ∀ r ∈ l, r.key ≠ k)) := by
  refine Ctr.intro Try.func132 rfl Try.ntmps132 rfl fun x w hp => ?_
  repeat (first | refine CX.psA ?_ | refine CX.nil ?_ | refine CQ.thenN ?_ | refine CQ.thenR ?_ | refine CQ.thenX ?_ | refine CQ.blockN ?_ | refine CQ.blockR ?_ | refine CQ.blockX ?_ | refine CQ.blockYA ?_ | refine CC.seq ?_ | refine CC.block ?_ | refine CC.region ?_ | refine CC.skip ?_ | refine CC.ret ?_ | refine CC.exit ?_ | refine CC.condTA ?_ | refine CC.condFA ?_ | refine CC.condDTA ?_ | refine CC.condDFA ?_ | refine CX.storeA ?_ | refine CX.skipA ?_)
  refine CC.loop (X := Nat × Nat) (fun s => [(9, .int .i64 (s.1 : Int)), (10, .int .i64 (s.2 : Int)), (8, .int .i64 (l.length : Int)), (0, .slice a l.length cap), (1, sv k), (2, .func (.func 133) #[] #[])])
    (fun s => [exact x]) (fun s => s.1 ≤ s.2 ∧ s.2 ≤ l.length ∧ (∀ q (hq : q < l.length), q < s.1 → klt (l[q]).key k = true) ∧ (∀ q (hq : q < l.length), s.2 ≤ q → ¬ klt (l[q]).key k = true)) (fun s => s.2 - s.1) (0, l.length) ⟨Nat.zero_le _, Nat.le_refl _, fun q hq h => by dsimp only at h; omega, fun q hq h => by dsimp only at h; omega⟩ ⟨rfl, rfl, rfl, rfl, rfl, rfl, trivial⟩ (by repeat (first | exact Sel.nil _ | (apply Sel.cons; (· repeat (first | exact .head _ | apply Pick.tail | apply Upd.tail))))) ?_
  rintro ⟨i, j⟩ ⟨hij, hj, h1, h2⟩
  dsimp only at hij hj h1 h2 ⊢
  by_cases h3 : i < j
  · obtain ⟨g, off, rfl⟩ := rwAt_some hp (by omega)
    have hh : (i + j) / 2 ^ 1 < l.length := by omega
    repeat (first | refine CX.psA ?_ | refine CX.nil ?_ | refine CQ.thenN ?_ | refine CQ.thenR ?_ | refine CQ.thenX ?_ | refine CQ.blockN ?_ | refine CQ.blockR ?_ | refine CQ.blockX ?_ | refine CQ.blockYA ?_ | refine CC.seq ?_ | refine CC.block ?_ | refine CC.region ?_ | refine CC.skip ?_ | refine CC.ret ?_ | refine CC.exit ?_ | refine CC.condTA ?_ | refine CC.condFA ?_ | refine CC.condDTA ?_ | refine CC.condDFA ?_ | refine CX.storeA ?_ | refine CX.skipA ?_)
    refine CX.ps (PS.shrN (i + j) 1 (by decide) rfl (eqI (by omega)) rfl) ?_
    generalize hhe : (i + j) / 2 ^ 1 = h at *
    repeat (first | refine CX.psA ?_ | refine CX.nil ?_ | refine CQ.thenN ?_ | refine CQ.thenR ?_ | refine CQ.thenX ?_ | refine CQ.blockN ?_ | refine CQ.blockR ?_ | refine CQ.blockX ?_ | refine CQ.blockYA ?_ | refine CC.seq ?_ | refine CC.block ?_ | refine CC.region ?_ | refine CC.skip ?_ | refine CC.ret ?_ | refine CC.exit ?_ | refine CC.condTA ?_ | refine CC.condFA ?_ | refine CC.condDTA ?_ | refine CC.condDFA ?_ | refine CX.storeA ?_ | refine CX.skipA ?_)
    (refine CX.indexA (h) ?_ ?_; (· exact hh))
    (apply CX.ps; (· apply PS.loadG (vs := (l[h]).cells); (· rfl); (· rfl); (· exact hp.cells (by repeat (first | exact .head _ | apply Pick.tail | apply Upd.tail)) hh); (· rfl)))
    repeat (first | refine CX.psA ?_ | refine CX.nil ?_ | refine CQ.thenN ?_ | refine CQ.thenR ?_ | refine CQ.thenX ?_ | refine CQ.blockN ?_ | refine CQ.blockR ?_ | refine CQ.blockX ?_ | refine CQ.blockYA ?_ | refine CC.seq ?_ | refine CC.block ?_ | refine CC.region ?_ | refine CC.skip ?_ | refine CC.ret ?_ | refine CC.exit ?_ | refine CC.condTA ?_ | refine CC.condFA ?_ | refine CC.condDTA ?_ | refine CC.condDFA ?_ | refine CX.storeA ?_ | refine CX.skipA ?_)
    refine CX.callF (bf1_c l[h] k) ?_
    rintro _ _ ⟨rfl, rfl⟩
    by_cases h4 : cmpZ (l[h]).key k < 0
    · repeat (first | refine CX.psA ?_ | refine CX.nil ?_ | refine CQ.thenN ?_ | refine CQ.thenR ?_ | refine CQ.thenX ?_ | refine CQ.blockN ?_ | refine CQ.blockR ?_ | refine CQ.blockX ?_ | refine CQ.blockYA ?_ | refine CC.seq ?_ | refine CC.block ?_ | refine CC.region ?_ | refine CC.skip ?_ | refine CC.ret ?_ | refine CC.exit ?_ | refine CC.condTA ?_ | refine CC.condFA ?_ | refine CC.condDTA ?_ | refine CC.condDFA ?_ | refine CX.storeA ?_ | refine CX.skipA ?_)
      have h5 := cmp_neg.1 h4
      exact CQ.round (x := (i, j)) (h + 1, j) ⟨by dsimp only; omega, hj, fun q hq hlt => by
        dsimp only at hlt
        by_cases e : q = h
        · subst e; exact h5
        · exact klt_tr (ris_at hR (show q < h by omega) hh) h5, h2⟩ (by dsimp only; omega) ⟨eqI (by simp), rfl, rfl, rfl, rfl, rfl, trivial⟩ (by repeat (first | exact Sel.nil _ | (apply Sel.cons; (· repeat (first | exact .head _ | apply Pick.tail | apply Upd.tail)))))
    · repeat (first | refine CX.psA ?_ | refine CX.nil ?_ | refine CQ.thenN ?_ | refine CQ.thenR ?_ | refine CQ.thenX ?_ | refine CQ.blockN ?_ | refine CQ.blockR ?_ | refine CQ.blockX ?_ | refine CQ.blockYA ?_ | refine CC.seq ?_ | refine CC.block ?_ | refine CC.region ?_ | refine CC.skip ?_ | refine CC.ret ?_ | refine CC.exit ?_ | refine CC.condTA ?_ | refine CC.condFA ?_ | refine CC.condDTA ?_ | refine CC.condDFA ?_ | refine CX.storeA ?_ | refine CX.skipA ?_)
      exact CQ.round (x := (i, j)) (i, h) ⟨by dsimp only; omega, by dsimp only; omega, h1, fun q hq hle => by
        dsimp only at hle
        intro hc
        by_cases e : q = h
        · subst e; exact h4 (cmp_neg.2 hc)
        · exact h4 (cmp_neg.2 (klt_tr (ris_at hR (show h < q by omega) hq) hc))⟩ (by dsimp only; omega) ⟨rfl, rfl, rfl, rfl, rfl, rfl, trivial⟩ (by repeat (first | exact Sel.nil _ | (apply Sel.cons; (· repeat (first | exact .head _ | apply Pick.tail | apply Upd.tail)))))
  · obtain rfl : i = j := by omega
    by_cases h6 : i < l.length
    · obtain ⟨g, off, rfl⟩ := rwAt_some hp (by omega)
      by_cases h7 : cmpZ (l[i]).key k = 0
      · repeat (first | refine CX.psA ?_ | refine CX.nil ?_ | refine CQ.thenN ?_ | refine CQ.thenR ?_ | refine CQ.thenX ?_ | refine CQ.blockN ?_ | refine CQ.blockR ?_ | refine CQ.blockX ?_ | refine CQ.blockYA ?_ | refine CC.seq ?_ | refine CC.block ?_ | refine CC.region ?_ | refine CC.skip ?_ | refine CC.ret ?_ | refine CC.exit ?_ | refine CC.condTA ?_ | refine CC.condFA ?_ | refine CC.condDTA ?_ | refine CC.condDFA ?_ | refine CX.storeA ?_ | refine CX.skipA ?_)
        (refine CX.indexA (i) ?_ ?_; (· exact h6))
        (apply CX.ps; (· apply PS.loadG (vs := (l[i]).cells); (· rfl); (· rfl); (· exact hp.cells (by repeat (first | exact .head _ | apply Pick.tail | apply Upd.tail)) h6); (· rfl)))
        repeat (first | refine CX.psA ?_ | refine CX.nil ?_ | refine CQ.thenN ?_ | refine CQ.thenR ?_ | refine CQ.thenX ?_ | refine CQ.blockN ?_ | refine CQ.blockR ?_ | refine CQ.blockX ?_ | refine CQ.blockYA ?_ | refine CC.seq ?_ | refine CC.block ?_ | refine CC.region ?_ | refine CC.skip ?_ | refine CC.ret ?_ | refine CC.exit ?_ | refine CC.condTA ?_ | refine CC.condFA ?_ | refine CC.condDTA ?_ | refine CC.condDFA ?_ | refine CX.storeA ?_ | refine CX.skipA ?_)
        refine CX.callF (bf1_c l[i] k) ?_
        rw [h7]
        rintro _ _ ⟨rfl, rfl⟩
        repeat (first | refine CX.psA ?_ | refine CX.nil ?_ | refine CQ.thenN ?_ | refine CQ.thenR ?_ | refine CQ.thenX ?_ | refine CQ.blockN ?_ | refine CQ.blockR ?_ | refine CQ.blockX ?_ | refine CQ.blockYA ?_ | refine CC.seq ?_ | refine CC.block ?_ | refine CC.region ?_ | refine CC.skip ?_ | refine CC.ret ?_ | refine CC.exit ?_ | refine CC.condTA ?_ | refine CC.condFA ?_ | refine CC.condDTA ?_ | refine CC.condDFA ?_ | refine CX.storeA ?_ | refine CX.skipA ?_)
        (apply CQ.end2; (· rfl); (· exact .tmp rfl); (· exact .tmp rfl))
        · exact ⟨i, true, rfl, rfl, fun _ => ⟨h6, cmp_zero.1 h7⟩, fun h => by cases h⟩
        · repeat (first | exact Sel.nil _ | (apply Sel.cons; (· repeat (first | exact .head _ | apply Pick.tail | apply Upd.tail))))
      · repeat (first | refine CX.psA ?_ | refine CX.nil ?_ | refine CQ.thenN ?_ | refine CQ.thenR ?_ | refine CQ.thenX ?_ | refine CQ.blockN ?_ | refine CQ.blockR ?_ | refine CQ.blockX ?_ | refine CQ.blockYA ?_ | refine CC.seq ?_ | refine CC.block ?_ | refine CC.region ?_ | refine CC.skip ?_ | refine CC.ret ?_ | refine CC.exit ?_ | refine CC.condTA ?_ | refine CC.condFA ?_ | refine CC.condDTA ?_ | refine CC.condDFA ?_ | refine CX.storeA ?_ | refine CX.skipA ?_)
        (refine CX.indexA (i) ?_ ?_; (· exact h6))
        (apply CX.ps; (· apply PS.loadG (vs := (l[i]).cells); (· rfl); (· rfl); (· exact hp.cells (by repeat (first | exact .head _ | apply Pick.tail | apply Upd.tail)) h6); (· rfl)))
        repeat (first | refine CX.psA ?_ | refine CX.nil ?_ | refine CQ.thenN ?_ | refine CQ.thenR ?_ | refine CQ.thenX ?_ | refine CQ.blockN ?_ | refine CQ.blockR ?_ | refine CQ.blockX ?_ | refine CQ.blockYA ?_ | refine CC.seq ?_ | refine CC.block ?_ | refine CC.region ?_ | refine CC.skip ?_ | refine CC.ret ?_ | refine CC.exit ?_ | refine CC.condTA ?_ | refine CC.condFA ?_ | refine CC.condDTA ?_ | refine CC.condDFA ?_ | refine CX.storeA ?_ | refine CX.skipA ?_)
        refine CX.callF (bf1_c l[i] k) ?_
        rintro _ _ ⟨rfl, rfl⟩
        repeat (first | refine CX.psA ?_ | refine CX.nil ?_ | refine CQ.thenN ?_ | refine CQ.thenR ?_ | refine CQ.thenX ?_ | refine CQ.blockN ?_ | refine CQ.blockR ?_ | refine CQ.blockX ?_ | refine CQ.blockYA ?_ | refine CC.seq ?_ | refine CC.block ?_ | refine CC.region ?_ | refine CC.skip ?_ | refine CC.ret ?_ | refine CC.exit ?_ | refine CC.condTA ?_ | refine CC.condFA ?_ | refine CC.condDTA ?_ | refine CC.condDFA ?_ | refine CX.storeA ?_ | refine CX.skipA ?_)
        (apply CQ.end2; (· rfl); (· exact .tmp rfl); (· exact .tmp rfl))
        · refine ⟨i, false, rfl, rfl, (fun h => by cases h), fun _ r hr e => ?_⟩
          obtain ⟨q, hq, rfl⟩ := List.getElem_of_mem hr
          subst e
          rcases Nat.lt_trichotomy q i with h | h | h
          · have := h1 q hq h; rw [klt_irr] at this; cases this
          · subst h; exact h7 (cmp_zero.2 rfl)
          · exact h2 i h6 (Nat.le_refl _) (ris_at hR h hq)
        · repeat (first | exact Sel.nil _ | (apply Sel.cons; (· repeat (first | exact .head _ | apply Pick.tail | apply Upd.tail))))
    · repeat (first | refine CX.psA ?_ | refine CX.nil ?_ | refine CQ.thenN ?_ | refine CQ.thenR ?_ | refine CQ.thenX ?_ | refine CQ.blockN ?_ | refine CQ.blockR ?_ | refine CQ.blockX ?_ | refine CQ.blockYA ?_ | refine CC.seq ?_ | refine CC.block ?_ | refine CC.region ?_ | refine CC.skip ?_ | refine CC.ret ?_ | refine CC.exit ?_ | refine CC.condTA ?_ | refine CC.condFA ?_ | refine CC.condDTA ?_ | refine CC.condDFA ?_ | refine CX.storeA ?_ | refine CX.skipA ?_)
      (apply CQ.end2; (· rfl); (· exact .tmp rfl); (· exact .tmp rfl))
      · refine ⟨i, false, rfl, rfl, (fun h => by cases h), fun _ r hr e => ?_⟩
        obtain ⟨q, hq, rfl⟩ := List.getElem_of_mem hr
        subst e
        have := h1 q hq (by omega); rw [klt_irr] at this; cases this
      · repeat (first | exact Sel.nil _ | (apply Sel.cons; (· repeat (first | exact .head _ | apply Pick.tail | apply Upd.tail))))
theorem find_c (l : List RwV) (hl : l.length ≤ 1073741824) (hm : MayR (l.map RwV.m)) (a : Option Addr) (cap : Nat) (k : Blk) : Ctr Try.prog 68 [.slice a l.length cap, sv k] [] (fun x => rwAt a l x)
    (fun v M => ∃ a' B c' d, v = .tuple #[.slice a' (List.length B) c', .bool d] ∧ M = [own 5 1 a' (List.length B) c' (cb B)] ∧ (d = true → val (l.map RwV.m) k = some B) ∧ (d = false → val (l.map RwV.m) k = none)) := by
  refine Ctr.intro Try.func68 rfl Try.ntmps68 rfl fun x w hp => ?_
  repeat (first | refine CX.psA ?_ | refine CX.nil ?_ | refine CQ.thenN ?_ | refine CQ.thenR ?_ | refine CQ.thenX ?_ | refine CQ.blockN ?_ | refine CQ.blockR ?_ | refine CQ.blockX ?_ | refine CQ.blockYA ?_ | refine CC.seq ?_ | refine CC.block ?_ | refine CC.region ?_ | refine CC.skip ?_ | refine CC.ret ?_ | refine CC.exit ?_ | refine CC.condTA ?_ | refine CC.condFA ?_ | refine CC.condDTA ?_ | refine CC.condDFA ?_ | refine CX.storeA ?_ | refine CX.skipA ?_)
  refine CX.callA (mayR_c l (by omega) a cap) ?_ (hpre := by exact rw_ex (by repeat (first | exact .head _ | apply Pick.tail | apply Upd.tail)) hp)
  rw [decide_eq_true hm]
  rintro _ _ ⟨rfl, rfl⟩
  repeat (first | refine CX.psA ?_ | refine CX.nil ?_ | refine CQ.thenN ?_ | refine CQ.thenR ?_ | refine CQ.thenX ?_ | refine CQ.blockN ?_ | refine CQ.blockR ?_ | refine CQ.blockX ?_ | refine CQ.blockYA ?_ | refine CC.seq ?_ | refine CC.block ?_ | refine CC.region ?_ | refine CC.skip ?_ | refine CC.ret ?_ | refine CC.exit ?_ | refine CC.condTA ?_ | refine CC.condFA ?_ | refine CC.condDTA ?_ | refine CC.condDFA ?_ | refine CX.storeA ?_ | refine CX.skipA ?_)
  refine CX.callA (bs_c l hl hm.1 a cap k) ?_ (hpre := by exact rw_ex (by repeat (first | exact .head _ | apply Pick.tail | apply Upd.tail)) hp)
  rintro _ _ ⟨i, d, rfl, rfl, hd1, hd2⟩
  cases d with
  | false =>
    repeat (first | refine CX.psA ?_ | refine CX.nil ?_ | refine CQ.thenN ?_ | refine CQ.thenR ?_ | refine CQ.thenX ?_ | refine CQ.blockN ?_ | refine CQ.blockR ?_ | refine CQ.blockX ?_ | refine CQ.blockYA ?_ | refine CC.seq ?_ | refine CC.block ?_ | refine CC.region ?_ | refine CC.skip ?_ | refine CC.ret ?_ | refine CC.exit ?_ | refine CC.condTA ?_ | refine CC.condFA ?_ | refine CC.condDTA ?_ | refine CC.condDFA ?_ | refine CX.storeA ?_ | refine CX.skipA ?_)
    refine CQ.ownNil 5 1 ?_
    (apply CQ.end2; (· rfl); (· exact .tmp rfl); (· exact .tmp rfl))
    · refine ⟨none, [], 0, false, rfl, rfl, (fun h => by cases h), fun _ => val_none fun x hx => ?_⟩
      obtain ⟨r, hr, rfl⟩ := List.mem_map.1 hx
      exact hd2 rfl r hr
    · repeat (first | exact Sel.nil _ | (apply Sel.cons; (· repeat (first | exact .head _ | apply Pick.tail | apply Upd.tail))))
  | true =>
    obtain ⟨hi, hk⟩ := hd1 rfl
    obtain ⟨g, off, rfl⟩ := rwAt_some hp (by omega)
    have hv : (l[i]).s.b.length ≤ 1073741824 := by
      have := (hm.2 (l[i]).m (List.mem_map_of_mem (List.getElem_mem hi))).2.2
      have e : (l[i]).m.2.length = (l[i]).s.b.length := rfl
      omega
    repeat (first | refine CX.psA ?_ | refine CX.nil ?_ | refine CQ.thenN ?_ | refine CQ.thenR ?_ | refine CQ.thenX ?_ | refine CQ.blockN ?_ | refine CQ.blockR ?_ | refine CQ.blockX ?_ | refine CQ.blockYA ?_ | refine CC.seq ?_ | refine CC.block ?_ | refine CC.region ?_ | refine CC.skip ?_ | refine CC.ret ?_ | refine CC.exit ?_ | refine CC.condTA ?_ | refine CC.condFA ?_ | refine CC.condDTA ?_ | refine CC.condDFA ?_ | refine CX.storeA ?_ | refine CX.skipA ?_)
    (refine CX.indexA (i) ?_ ?_; (· exact hi))
    repeat (first | refine CX.psA ?_ | refine CX.nil ?_ | refine CQ.thenN ?_ | refine CQ.thenR ?_ | refine CQ.thenX ?_ | refine CQ.blockN ?_ | refine CQ.blockR ?_ | refine CQ.blockX ?_ | refine CQ.blockYA ?_ | refine CC.seq ?_ | refine CC.block ?_ | refine CC.region ?_ | refine CC.skip ?_ | refine CC.ret ?_ | refine CC.exit ?_ | refine CC.condTA ?_ | refine CC.condFA ?_ | refine CC.condDTA ?_ | refine CC.condDFA ?_ | refine CX.storeA ?_ | refine CX.skipA ?_)
    (apply CX.ps; (· apply PS.load (v := .slice (l[i]).s.a (l[i]).s.b.length (l[i]).s.c); (· rfl); (· rfl); (· exact hp.cell (by repeat (first | exact .head _ | apply Pick.tail | apply Upd.tail)) hi 1 rfl)))
    refine CX.callA (clone_c (l[i]).s hv) ?_ (hpre := by exact fun y hy => (hp.2 l[i] (List.getElem_mem hi)).mono (Pick.ok (show Pick (exact x) _ _ from by repeat (first | exact .head _ | apply Pick.tail | apply Upd.tail)) hy))
    rintro _ _ ⟨a', c', rfl, rfl⟩
    repeat (first | refine CX.psA ?_ | refine CX.nil ?_ | refine CQ.thenN ?_ | refine CQ.thenR ?_ | refine CQ.thenX ?_ | refine CQ.blockN ?_ | refine CQ.blockR ?_ | refine CQ.blockX ?_ | refine CQ.blockYA ?_ | refine CC.seq ?_ | refine CC.block ?_ | refine CC.region ?_ | refine CC.skip ?_ | refine CC.ret ?_ | refine CC.exit ?_ | refine CC.condTA ?_ | refine CC.condFA ?_ | refine CC.condDTA ?_ | refine CC.condDFA ?_ | refine CX.storeA ?_ | refine CX.skipA ?_)
    (apply CQ.end2; (· rfl); (· exact .tmp rfl); (· exact .tmp rfl))
    · refine ⟨a', (l[i]).s.b, c', true, rfl, rfl, fun _ => ?_, fun h => by cases h⟩
      have := val_mem hm.1 (x := (l[i]).m) (List.mem_map_of_mem (List.getElem_mem hi))
      rw [← hk]; exact this
    · repeat (first | exact Sel.nil _ | (apply Sel.cons; (· repeat (first | exact .head _ | apply Pick.tail | apply Upd.tail))))
end Go.Proofs.Ytlckhaodecdbbaa
