/- Part K3: Bt, Nm, Bu, Bo, Cr, Rn, Bp, Bg, Bx, Mg. -/
import Derived.Test.YtlckhaodecdbbaaGreatDoorK2
set_option linter.unusedVariables false
set_option linter.unusedSimpArgs false
/-! Which rows and changes may be (batch), in the program. Printed by bt1.py (wip). -/
namespace Go.Proofs.YtlckhaodecdbbaaGreatDoor
open Go.Cx
attribute [local irreducible] Go.Cx.CX Go.Cx.CC Go.Cx.CQ Go.Cx.PS Go.Cx.Ctr Go.Cx.CH
set_option maxRecDepth 10000
theorem named_c (k : Blk) (a : Option Addr) (len cap : Nat) : Ctr Tryz.prog 79 [sv k, .slice a len cap] [] (fun _ => True) (fun v M => v = .bool (decide (1 ≤ k.length ∧ k.length ≤ 16 ∧ len ≤ 1048576)) ∧ M = []) := by
  refine Ctr.intro Tryz.func79 rfl Tryz.ntmps79 rfl fun x w hp => ?_
  by_cases h1 : 1 ≤ k.length
  · by_cases h2 : k.length ≤ 16
    · by_cases h3 : len ≤ 1048576
      · rw [decide_eq_true ⟨h1, h2, h3⟩]
        refine wk ?_
        refine CX.ps (PS.lenStr rfl rfl) ?_
        refine wk ?_
        refine CX.ps (PS.lenStr rfl rfl) ?_
        refine wk ?_
        ((apply CQ.end1; (· rfl); (· exact .tmp rfl)); (· exact ⟨rfl, rfl⟩); (· exact selA))
      · rw [decide_eq_false (by omega)]
        refine wk ?_
        refine CX.ps (PS.lenStr rfl rfl) ?_
        refine wk ?_
        refine CX.ps (PS.lenStr rfl rfl) ?_
        refine wk ?_
        ((apply CQ.end1; (· rfl); (· exact .tmp rfl)); (· exact ⟨rfl, rfl⟩); (· exact selA))
    · rw [decide_eq_false (by omega)]
      refine wk ?_
      refine CX.ps (PS.lenStr rfl rfl) ?_
      refine wk ?_
      refine CX.ps (PS.lenStr rfl rfl) ?_
      refine wk ?_
      ((apply CQ.end1; (· rfl); (· exact .tmp rfl)); (· exact ⟨rfl, rfl⟩); (· exact selA))
  · rw [decide_eq_false (by omega)]
    refine wk ?_
    refine CX.ps (PS.lenStr rfl rfl) ?_
    refine wk ?_
    ((apply CQ.end1; (· rfl); (· exact .tmp rfl)); (· exact ⟨rfl, rfl⟩); (· exact selA))
theorem m1R_c (r : RwV) : Ctr Tryz.prog 122 [.agg r.cells.toArray] [] (fun _ => True) (fun v M => v = sv r.key ∧ M = []) := by
  refine Ctr.intro Tryz.func122 rfl Tryz.ntmps122 rfl fun x w hp => ?_
  refine wk ?_
  (refine CX.boxA (vs := r.cells) ?_; intro b)
  refine wk ?_
  ((apply CQ.end1; (· rfl); (· exact .tmp rfl)); (· exact ⟨rfl, rfl⟩); (· exact selA))
theorem k1R_c (r : RwV) : Ctr Tryz.prog 82 [.agg r.cells.toArray] [] (fun _ => True) (fun v M => v = sv r.key ∧ M = []) := by
  refine Ctr.intro Tryz.func82 rfl Tryz.ntmps82 rfl fun x w hp => ?_
  refine wk ?_
  (refine CX.boxA (vs := r.cells) ?_; intro b)
  refine wk ?_
  ((apply CQ.end1; (· rfl); (· exact .tmp rfl)); (· exact ⟨rfl, rfl⟩); (· exact selA))
theorem m2R_c (r : RwV) : Ctr Tryz.prog 124 [.agg r.cells.toArray] [] (fun _ => True) (fun v M => v = .bool (decide (¬ okR r.m)) ∧ M = []) := by
  refine Ctr.intro Tryz.func124 rfl Tryz.ntmps124 rfl fun x w hp => ?_
  refine wk ?_
  (refine CX.boxA (vs := r.cells) ?_; intro b)
  refine wk ?_
  refine CX.callA (named_c r.key r.s.a r.s.b.length r.s.c) ?_
  rintro _ _ ⟨rfl, rfl⟩
  have e : (!decide (1 ≤ r.key.length ∧ r.key.length ≤ 16 ∧ r.s.b.length ≤ 1048576)) = decide (¬ okR r.m) := by
    by_cases h : okR r.m
    · rw [decide_eq_true (show 1 ≤ r.key.length ∧ r.key.length ≤ 16 ∧ r.s.b.length ≤ 1048576 from h), decide_eq_false (fun k => k h)]; rfl
    · rw [decide_eq_false (show ¬ (1 ≤ r.key.length ∧ r.key.length ≤ 16 ∧ r.s.b.length ≤ 1048576) from h), decide_eq_true h]; rfl
  rw [← e]
  generalize decide (1 ≤ r.key.length ∧ r.key.length ≤ 16 ∧ r.s.b.length ≤ 1048576) = d
  refine wk ?_
  ((apply CQ.end1; (· rfl); (· exact .tmp rfl)); (· exact ⟨rfl, rfl⟩); (· exact selA))
theorem risR_c (l : List RwV) (hl : l.length ≤ 9223372036854775806) (a : Option Addr) (cap : Nat) : Ctr Tryz.prog 121 [.slice a l.length cap, .func (.func 122) #[] #[]] [] (fun x => rwAt a l x) (fun v M => v = .bool (decide (Rising (l.map RwV.m))) ∧ M = []) := by
  refine Ctr.intro Tryz.func121 rfl Tryz.ntmps121 rfl fun x w hp => ?_
  refine wk ?_
  refine CC.loop (X := Nat) (fun i => [(8, .int .i64 (i : Int)), (7, .int .i64 (l.length : Int)), (0, .slice a l.length cap), (1, .func (.func 122) #[] #[])])
    (fun i => [exact x]) (fun i => i ≤ l.length ∧ ∀ j (h : j + 1 < i) (hj : j + 1 < l.length), klt (rwKey (l[j]'(by omega))) (rwKey l[j + 1]) = true) (fun i => l.length - i) 0 ⟨Nat.zero_le _, fun j h => by omega⟩ ⟨rfl, rfl, rfl, rfl, trivial⟩ (by exact selA) ?_
  rintro i ⟨hi, hpre⟩
  by_cases h1 : i < l.length
  · obtain ⟨g, off, rfl⟩ := rwAt_some hp (by omega)
    by_cases h0 : i = 0
    · refine wk ?_
      refine CC.draw [(0, 0), (1, 0), (2, 0), (3, 0), (4, 0), (5, 0), (6, 0), (7, 0), (8, 1), (10, 0), (11, 0), (12, 0), (13, 0), (14, 1), (9, 2), (15, 2), (16, 0), (17, 0)] mixed rfl (by kernel_rfl) (by kernel_rfl) [exact x] ?_
      refine hwk ?_
      refine wk ?_
      exact CQ.round (i + 1) ⟨by omega, fun j h hj => by omega⟩ (by omega) ⟨eqI (by omega), rfl, rfl, rfl, trivial⟩ (by exact selA)
    · have h2 : i - 1 < l.length := by omega
      by_cases h3 : klt (rwKey l[i - 1]) (rwKey l[i]) = true
      · refine wk ?_
        refine CC.draw [(0, 0), (1, 0), (2, 0), (3, 0), (4, 0), (5, 0), (6, 0), (7, 0), (8, 1), (10, 0), (11, 0), (12, 0), (13, 0), (14, 1), (9, 2), (15, 2), (16, 0), (17, 0)] mixed rfl (by kernel_rfl) (by kernel_rfl) [exact x] ?_
        refine hwk ?_
        refine CH.pure rfl (PS.indexAddr (j := i - 1) rfl rfl rfl (by omega) h2) ?_
        (apply CH.read; (· rfl); (· apply PS.loadG (vs := (l[i - 1]).cells); (· rfl); (· rfl); (· exact hp.cells (by first | exact pickA | exact updA) h2); (· rfl)); (· exact selA))
        refine hwk ?_
        refine CH.pure rfl (PS.indexAddr (j := i) rfl rfl rfl rfl h1) ?_
        (apply CH.read; (· rfl); (· apply PS.loadG (vs := (l[i]).cells); (· rfl); (· rfl); (· exact hp.cells (by first | exact pickA | exact updA) h1); (· rfl)); (· exact selA))
        refine CH.chain rfl fun K hK => ?_
        refine CX.callF (m1R_c l[i - 1]) ?_
        rintro _ _ ⟨rfl, rfl⟩
        (refine CX.nil ?_; refine CQ.thenK ?_; apply hK; (· exact selA); clear hK K)
        refine CH.chain rfl fun K hK => ?_
        refine CX.callF (m1R_c l[i]) ?_
        rintro _ _ ⟨rfl, rfl⟩
        (refine CX.nil ?_; refine CQ.thenK ?_; apply hK; (· exact selA); clear hK K)
        refine CH.pure rfl (PS.geqStr false (by have h3' := h3; unfold rwKey at h3'; rw [h3']; rfl)) ?_
        refine hwk ?_
        refine wk ?_
        exact CQ.round (i + 1) ⟨by omega, fun j h hj => by
          by_cases e : j + 1 < i
          · exact hpre j e hj
          · have ej : j + 1 = i := by omega
            have ej2 : i - 1 = j := by omega
            subst ej
            simpa using h3⟩ (by omega) ⟨eqI (by omega), rfl, rfl, rfl, trivial⟩ (by exact selA)
      · have h3' : klt (rwKey l[i - 1]) (rwKey l[i]) = false := by simpa using h3
        rw [decide_eq_false (fun hR => h3 (by
          have := adj_pw rwKey ((risR_iff l).1 hR) (i - 1) (by omega)
          simpa only [show i - 1 + 1 = i by omega] using this))]
        refine wk ?_
        refine CC.draw [(0, 0), (1, 0), (2, 0), (3, 0), (4, 0), (5, 0), (6, 0), (7, 0), (8, 1), (10, 0), (11, 0), (12, 0), (13, 0), (14, 1), (9, 2), (15, 2), (16, 0), (17, 0)] mixed rfl (by kernel_rfl) (by kernel_rfl) [exact x] ?_
        refine hwk ?_
        refine CH.pure rfl (PS.indexAddr (j := i - 1) rfl rfl rfl (by omega) h2) ?_
        (apply CH.read; (· rfl); (· apply PS.loadG (vs := (l[i - 1]).cells); (· rfl); (· rfl); (· exact hp.cells (by first | exact pickA | exact updA) h2); (· rfl)); (· exact selA))
        refine hwk ?_
        refine CH.pure rfl (PS.indexAddr (j := i) rfl rfl rfl rfl h1) ?_
        (apply CH.read; (· rfl); (· apply PS.loadG (vs := (l[i]).cells); (· rfl); (· rfl); (· exact hp.cells (by first | exact pickA | exact updA) h1); (· rfl)); (· exact selA))
        refine CH.chain rfl fun K hK => ?_
        refine CX.callF (m1R_c l[i - 1]) ?_
        rintro _ _ ⟨rfl, rfl⟩
        (refine CX.nil ?_; refine CQ.thenK ?_; apply hK; (· exact selA); clear hK K)
        refine CH.chain rfl fun K hK => ?_
        refine CX.callF (m1R_c l[i]) ?_
        rintro _ _ ⟨rfl, rfl⟩
        (refine CX.nil ?_; refine CQ.thenK ?_; apply hK; (· exact selA); clear hK K)
        refine CH.pure rfl (PS.geqStr true (by unfold rwKey at h3'; rw [h3']; rfl)) ?_
        refine hwk ?_
        refine wk ?_
        ((apply CQ.end1; (· rfl); (· exact .tmp rfl)); (· exact ⟨rfl, rfl⟩); (· exact selA))
  · obtain rfl : i = l.length := by omega
    rw [decide_eq_true ((risR_iff l).2 (pw_adj rwKey l fun j hj => hpre j hj hj))]
    refine wk ?_
    ((apply CQ.end1; (· rfl); (· exact .tmp rfl)); (· exact ⟨rfl, rfl⟩); (· exact selA))
theorem idxR_c (l : List RwV) (hl : l.length ≤ 9223372036854775806) (a : Option Addr) (cap : Nat) : Ctr Tryz.prog 156 [.slice a l.length cap, .func (.func 124) #[] #[]] [] (fun x => rwAt a l x) (fun v M => ∃ z : Int, v = .int .i64 z ∧ (0 ≤ z ↔ ∃ r ∈ l, ¬ okR r.m) ∧ M = []) := by
  refine Ctr.intro Tryz.func156 rfl Tryz.ntmps156 rfl fun x w hp => ?_
  refine wk ?_
  refine CC.loop (X := Nat) (fun i => [(8, .int .i64 (i : Int)), (7, .int .i64 (l.length : Int)), (0, .slice a l.length cap), (1, .func (.func 124) #[] #[])])
    (fun i => [exact x]) (fun i => i ≤ l.length ∧ ∀ j (hj : j < l.length), j < i → okR (l[j]).m) (fun i => l.length - i) 0 ⟨Nat.zero_le _, fun j h => by omega⟩ ⟨rfl, rfl, rfl, rfl, trivial⟩ (by exact selA) ?_
  rintro i ⟨hi, hpre⟩
  by_cases h1 : i < l.length
  · obtain ⟨g, off, rfl⟩ := rwAt_some hp (by omega)
    by_cases h2 : okR (l[i]).m
    · refine wk ?_
      (refine CX.indexA (i) ?_ ?_; (· exact h1))
      (apply CX.ps; (· apply PS.loadG (vs := (l[i]).cells); (· rfl); (· rfl); (· exact hp.cells (by first | exact pickA | exact updA) h1); (· rfl)))
      refine CX.callF (m2R_c l[i]) ?_
      rw [decide_eq_false (fun h => h h2)]
      rintro _ _ ⟨rfl, rfl⟩
      refine wk ?_
      exact CQ.round (i + 1) ⟨by omega, fun j hj h => by
        by_cases e : j < i
        · exact hpre j hj e
        · obtain rfl : j = i := by omega
          exact h2⟩ (by omega) ⟨eqI (by omega), rfl, rfl, rfl, trivial⟩ (by exact selA)
    · refine wk ?_
      (refine CX.indexA (i) ?_ ?_; (· exact h1))
      (apply CX.ps; (· apply PS.loadG (vs := (l[i]).cells); (· rfl); (· rfl); (· exact hp.cells (by first | exact pickA | exact updA) h1); (· rfl)))
      refine CX.callF (m2R_c l[i]) ?_
      rw [decide_eq_true h2]
      rintro _ _ ⟨rfl, rfl⟩
      refine wk ?_
      (apply CQ.end1; (· rfl); (· exact .tmp rfl))
      · exact ⟨_, rfl, ⟨fun _ => ⟨l[i], List.getElem_mem h1, h2⟩, fun _ => by omega⟩, rfl⟩
      · exact selA
  · obtain rfl : i = l.length := by omega
    refine wk ?_
    (apply CQ.end1; (· rfl); (· exact .tmp rfl))
    · exact ⟨_, rfl, ⟨fun h => by omega, fun ⟨r, hr, hn⟩ => by
        obtain ⟨j, hj, rfl⟩ := List.getElem_of_mem hr
        exact absurd (hpre j hj hj) hn⟩, rfl⟩
    · exact selA
theorem conR_c (l : List RwV) (hl : l.length ≤ 9223372036854775806) (a : Option Addr) (cap : Nat) : Ctr Tryz.prog 123 [.slice a l.length cap, .func (.func 124) #[] #[]] [] (fun x => rwAt a l x) (fun v M => v = .bool (decide (∃ r ∈ l, ¬ okR r.m)) ∧ M = []) := by
  refine Ctr.intro Tryz.func123 rfl Tryz.ntmps123 rfl fun x w hp => ?_
  refine wk ?_
  refine CX.callA (idxR_c l hl a cap) ?_ (hpre := by exact rw_ex (by first | exact pickA | exact updA) hp)
  rintro _ _ ⟨z, rfl, hz, rfl⟩
  rw [show decide (∃ r ∈ l, ¬ okR r.m) = decide (0 ≤ z) from decide_eq_decide.2 hz.symm]
  refine wk ?_
  ((apply CQ.end1; (· rfl); (· exact .tmp rfl)); (· exact ⟨rfl, rfl⟩); (· exact selA))
theorem mayR_c (l : List RwV) (hl : l.length ≤ 9223372036854775806) (a : Option Addr) (cap : Nat) : Ctr Tryz.prog 80 [.slice a l.length cap] [] (fun x => rwAt a l x) (fun v M => v = .bool (decide (MayR (l.map RwV.m))) ∧ M = []) := by
  refine Ctr.intro Tryz.func80 rfl Tryz.ntmps80 rfl fun x w hp => ?_
  refine wk ?_
  refine CX.callA (risR_c l hl a cap) ?_ (hpre := by exact rw_ex (by first | exact pickA | exact updA) hp)
  by_cases h1 : Rising (l.map RwV.m)
  · rw [decide_eq_true h1]
    rintro _ _ ⟨rfl, rfl⟩
    refine wk ?_
    refine CX.callA (conR_c l hl a cap) ?_ (hpre := by exact rw_ex (by first | exact pickA | exact updA) hp)
    by_cases h2 : ∃ r ∈ l, ¬ okR r.m
    · rw [decide_eq_true h2, decide_eq_false (fun h : MayR (l.map RwV.m) => by
        obtain ⟨r, hr, hn⟩ := h2
        exact hn (h.2 _ (List.mem_map_of_mem hr)))]
      rintro _ _ ⟨rfl, rfl⟩
      refine wk ?_
      ((apply CQ.end1; (· rfl); (· exact .tmp rfl)); (· exact ⟨rfl, rfl⟩); (· exact selA))
    · rw [decide_eq_false h2, decide_eq_true (show MayR (l.map RwV.m) from ⟨h1, fun c hc => by
        obtain ⟨r, hr, rfl⟩ := List.mem_map.1 hc
        exact Decidable.byContradiction fun hn => h2 ⟨r, hr, hn⟩⟩)]
      rintro _ _ ⟨rfl, rfl⟩
      refine wk ?_
      ((apply CQ.end1; (· rfl); (· exact .tmp rfl)); (· exact ⟨rfl, rfl⟩); (· exact selA))
  · rw [decide_eq_false h1, decide_eq_false (fun h : MayR (l.map RwV.m) => h1 h.1)]
    rintro _ _ ⟨rfl, rfl⟩
    refine wk ?_
    ((apply CQ.end1; (· rfl); (· exact .tmp rfl)); (· exact ⟨rfl, rfl⟩); (· exact selA))
theorem m1C_c (r : ChV) : Ctr Tryz.prog 76 [.agg r.cells.toArray] [] (fun _ => True) (fun v M => v = sv r.key ∧ M = []) := by
  refine Ctr.intro Tryz.func76 rfl Tryz.ntmps76 rfl fun x w hp => ?_
  refine wk ?_
  (refine CX.boxA (vs := r.cells) ?_; intro b)
  refine wk ?_
  ((apply CQ.end1; (· rfl); (· exact .tmp rfl)); (· exact ⟨rfl, rfl⟩); (· exact selA))
theorem k1C_c (r : ChV) : Ctr Tryz.prog 83 [.agg r.cells.toArray] [] (fun _ => True) (fun v M => v = sv r.key ∧ M = []) := by
  refine Ctr.intro Tryz.func83 rfl Tryz.ntmps83 rfl fun x w hp => ?_
  refine wk ?_
  (refine CX.boxA (vs := r.cells) ?_; intro b)
  refine wk ?_
  ((apply CQ.end1; (· rfl); (· exact .tmp rfl)); (· exact ⟨rfl, rfl⟩); (· exact selA))
theorem m2C0_c (k : Blk) (s : SlB) (gn : Bool) : Ctr Tryz.prog 78 [.agg [sv k, .slice s.a s.b.length s.c, .bool gn].toArray] [] (fun _ => True) (fun v M => v = .bool (decide (¬ (ChM.mk k s.b gn).ok)) ∧ M = []) := by
  refine Ctr.intro Tryz.func78 rfl Tryz.ntmps78 rfl fun x w hp => ?_
  have key : ∀ c : Bool, ((ChM.mk k s.b gn).ok ↔ c = false) → decide (¬ (ChM.mk k s.b gn).ok) = c := fun c hc => by
    cases c
    · exact decide_eq_false fun h => h (hc.2 rfl)
    · exact decide_eq_true fun h => by cases hc.1 h
  refine wk ?_
  (refine CX.boxA (vs := [sv k, .slice s.a s.b.length s.c, .bool gn]) ?_; intro b)
  refine wk ?_
  refine CX.callA (named_c k s.a s.b.length s.c) ?_
  by_cases h : 1 ≤ k.length ∧ k.length ≤ 16 ∧ s.b.length ≤ 1048576
  · rw [decide_eq_true h]
    rintro _ _ ⟨rfl, rfl⟩
    cases gn with
    | false =>
      rw [key false ⟨fun _ => rfl, fun _ => ⟨h.1, h.2.1, h.2.2, fun h => by cases h⟩⟩]
      refine wk ?_
      ((apply CQ.end1; (· rfl); (· exact .tmp rfl)); (· exact ⟨rfl, rfl⟩); (· exact selA))
    | true =>
      by_cases h0 : 0 < s.b.length
      · rw [key true ⟨fun ho => by
          have e : s.b = [] := ho.g rfl
          rw [e] at h0; simp at h0, fun h => by cases h⟩]
        refine wk ?_
        ((apply CQ.end1; (· rfl); (· exact .tmp rfl)); (· exact ⟨rfl, rfl⟩); (· exact selA))
      · rw [key false ⟨fun _ => rfl, fun _ => ⟨h.1, h.2.1, h.2.2, fun _ => List.eq_nil_of_length_eq_zero (show s.b.length = 0 by omega)⟩⟩]
        refine wk ?_
        ((apply CQ.end1; (· rfl); (· exact .tmp rfl)); (· exact ⟨rfl, rfl⟩); (· exact selA))
  · rw [decide_eq_false h, key true ⟨fun ho => (h ⟨ho.k1, ho.k2, ho.v⟩).elim, fun h => by cases h⟩]
    rintro _ _ ⟨rfl, rfl⟩
    refine wk ?_
    ((apply CQ.end1; (· rfl); (· exact .tmp rfl)); (· exact ⟨rfl, rfl⟩); (· exact selA))
theorem m2C_c (r : ChV) : Ctr Tryz.prog 78 [.agg r.cells.toArray] [] (fun _ => True) (fun v M => v = .bool (decide (¬ r.m.ok)) ∧ M = []) := m2C0_c r.key r.s r.gone
theorem risC_c (l : List ChV) (hl : l.length ≤ 9223372036854775806) (a : Option Addr) (cap : Nat) : Ctr Tryz.prog 75 [.slice a l.length cap, .func (.func 76) #[] #[]] [] (fun x => chAt a l x) (fun v M => v = .bool (decide (RisingC (l.map ChV.m))) ∧ M = []) := by
  refine Ctr.intro Tryz.func75 rfl Tryz.ntmps75 rfl fun x w hp => ?_
  refine wk ?_
  refine CC.loop (X := Nat) (fun i => [(8, .int .i64 (i : Int)), (7, .int .i64 (l.length : Int)), (0, .slice a l.length cap), (1, .func (.func 76) #[] #[])])
    (fun i => [exact x]) (fun i => i ≤ l.length ∧ ∀ j (h : j + 1 < i) (hj : j + 1 < l.length), klt (chKey (l[j]'(by omega))) (chKey l[j + 1]) = true) (fun i => l.length - i) 0 ⟨Nat.zero_le _, fun j h => by omega⟩ ⟨rfl, rfl, rfl, rfl, trivial⟩ (by exact selA) ?_
  rintro i ⟨hi, hpre⟩
  by_cases h1 : i < l.length
  · obtain ⟨g, off, rfl⟩ := chAt_some hp (by omega)
    by_cases h0 : i = 0
    · refine wk ?_
      refine CC.draw [(0, 0), (1, 0), (2, 0), (3, 0), (4, 0), (5, 0), (6, 0), (7, 0), (8, 1), (10, 0), (11, 0), (12, 0), (13, 0), (14, 1), (9, 2), (15, 2), (16, 0), (17, 0)] mixed rfl (by kernel_rfl) (by kernel_rfl) [exact x] ?_
      refine hwk ?_
      refine wk ?_
      exact CQ.round (i + 1) ⟨by omega, fun j h hj => by omega⟩ (by omega) ⟨eqI (by omega), rfl, rfl, rfl, trivial⟩ (by exact selA)
    · have h2 : i - 1 < l.length := by omega
      by_cases h3 : klt (chKey l[i - 1]) (chKey l[i]) = true
      · refine wk ?_
        refine CC.draw [(0, 0), (1, 0), (2, 0), (3, 0), (4, 0), (5, 0), (6, 0), (7, 0), (8, 1), (10, 0), (11, 0), (12, 0), (13, 0), (14, 1), (9, 2), (15, 2), (16, 0), (17, 0)] mixed rfl (by kernel_rfl) (by kernel_rfl) [exact x] ?_
        refine hwk ?_
        refine CH.pure rfl (PS.indexAddr (j := i - 1) rfl rfl rfl (by omega) h2) ?_
        (apply CH.read; (· rfl); (· apply PS.loadG (vs := (l[i - 1]).cells); (· rfl); (· rfl); (· exact hp.cells (by first | exact pickA | exact updA) h2); (· rfl)); (· exact selA))
        refine hwk ?_
        refine CH.pure rfl (PS.indexAddr (j := i) rfl rfl rfl rfl h1) ?_
        (apply CH.read; (· rfl); (· apply PS.loadG (vs := (l[i]).cells); (· rfl); (· rfl); (· exact hp.cells (by first | exact pickA | exact updA) h1); (· rfl)); (· exact selA))
        refine CH.chain rfl fun K hK => ?_
        refine CX.callF (m1C_c l[i - 1]) ?_
        rintro _ _ ⟨rfl, rfl⟩
        (refine CX.nil ?_; refine CQ.thenK ?_; apply hK; (· exact selA); clear hK K)
        refine CH.chain rfl fun K hK => ?_
        refine CX.callF (m1C_c l[i]) ?_
        rintro _ _ ⟨rfl, rfl⟩
        (refine CX.nil ?_; refine CQ.thenK ?_; apply hK; (· exact selA); clear hK K)
        refine CH.pure rfl (PS.geqStr false (by have h3' := h3; unfold chKey at h3'; rw [h3']; rfl)) ?_
        refine hwk ?_
        refine wk ?_
        exact CQ.round (i + 1) ⟨by omega, fun j h hj => by
          by_cases e : j + 1 < i
          · exact hpre j e hj
          · have ej : j + 1 = i := by omega
            have ej2 : i - 1 = j := by omega
            subst ej
            simpa using h3⟩ (by omega) ⟨eqI (by omega), rfl, rfl, rfl, trivial⟩ (by exact selA)
      · have h3' : klt (chKey l[i - 1]) (chKey l[i]) = false := by simpa using h3
        rw [decide_eq_false (fun hR => h3 (by
          have := adj_pw chKey ((risC_iff l).1 hR) (i - 1) (by omega)
          simpa only [show i - 1 + 1 = i by omega] using this))]
        refine wk ?_
        refine CC.draw [(0, 0), (1, 0), (2, 0), (3, 0), (4, 0), (5, 0), (6, 0), (7, 0), (8, 1), (10, 0), (11, 0), (12, 0), (13, 0), (14, 1), (9, 2), (15, 2), (16, 0), (17, 0)] mixed rfl (by kernel_rfl) (by kernel_rfl) [exact x] ?_
        refine hwk ?_
        refine CH.pure rfl (PS.indexAddr (j := i - 1) rfl rfl rfl (by omega) h2) ?_
        (apply CH.read; (· rfl); (· apply PS.loadG (vs := (l[i - 1]).cells); (· rfl); (· rfl); (· exact hp.cells (by first | exact pickA | exact updA) h2); (· rfl)); (· exact selA))
        refine hwk ?_
        refine CH.pure rfl (PS.indexAddr (j := i) rfl rfl rfl rfl h1) ?_
        (apply CH.read; (· rfl); (· apply PS.loadG (vs := (l[i]).cells); (· rfl); (· rfl); (· exact hp.cells (by first | exact pickA | exact updA) h1); (· rfl)); (· exact selA))
        refine CH.chain rfl fun K hK => ?_
        refine CX.callF (m1C_c l[i - 1]) ?_
        rintro _ _ ⟨rfl, rfl⟩
        (refine CX.nil ?_; refine CQ.thenK ?_; apply hK; (· exact selA); clear hK K)
        refine CH.chain rfl fun K hK => ?_
        refine CX.callF (m1C_c l[i]) ?_
        rintro _ _ ⟨rfl, rfl⟩
        (refine CX.nil ?_; refine CQ.thenK ?_; apply hK; (· exact selA); clear hK K)
        refine CH.pure rfl (PS.geqStr true (by unfold chKey at h3'; rw [h3']; rfl)) ?_
        refine hwk ?_
        refine wk ?_
        ((apply CQ.end1; (· rfl); (· exact .tmp rfl)); (· exact ⟨rfl, rfl⟩); (· exact selA))
  · obtain rfl : i = l.length := by omega
    rw [decide_eq_true ((risC_iff l).2 (pw_adj chKey l fun j hj => hpre j hj hj))]
    refine wk ?_
    ((apply CQ.end1; (· rfl); (· exact .tmp rfl)); (· exact ⟨rfl, rfl⟩); (· exact selA))
theorem idxC_c (l : List ChV) (hl : l.length ≤ 9223372036854775806) (a : Option Addr) (cap : Nat) : Ctr Tryz.prog 120 [.slice a l.length cap, .func (.func 78) #[] #[]] [] (fun x => chAt a l x) (fun v M => ∃ z : Int, v = .int .i64 z ∧ (0 ≤ z ↔ ∃ r ∈ l, ¬ ChM.ok r.m) ∧ M = []) := by
  refine Ctr.intro Tryz.func120 rfl Tryz.ntmps120 rfl fun x w hp => ?_
  refine wk ?_
  refine CC.loop (X := Nat) (fun i => [(8, .int .i64 (i : Int)), (7, .int .i64 (l.length : Int)), (0, .slice a l.length cap), (1, .func (.func 78) #[] #[])])
    (fun i => [exact x]) (fun i => i ≤ l.length ∧ ∀ j (hj : j < l.length), j < i → ChM.ok (l[j]).m) (fun i => l.length - i) 0 ⟨Nat.zero_le _, fun j h => by omega⟩ ⟨rfl, rfl, rfl, rfl, trivial⟩ (by exact selA) ?_
  rintro i ⟨hi, hpre⟩
  by_cases h1 : i < l.length
  · obtain ⟨g, off, rfl⟩ := chAt_some hp (by omega)
    by_cases h2 : ChM.ok (l[i]).m
    · refine wk ?_
      (refine CX.indexA (i) ?_ ?_; (· exact h1))
      (apply CX.ps; (· apply PS.loadG (vs := (l[i]).cells); (· rfl); (· rfl); (· exact hp.cells (by first | exact pickA | exact updA) h1); (· rfl)))
      refine CX.callF (m2C_c l[i]) ?_
      rw [decide_eq_false (fun h => h h2)]
      rintro _ _ ⟨rfl, rfl⟩
      refine wk ?_
      exact CQ.round (i + 1) ⟨by omega, fun j hj h => by
        by_cases e : j < i
        · exact hpre j hj e
        · obtain rfl : j = i := by omega
          exact h2⟩ (by omega) ⟨eqI (by omega), rfl, rfl, rfl, trivial⟩ (by exact selA)
    · refine wk ?_
      (refine CX.indexA (i) ?_ ?_; (· exact h1))
      (apply CX.ps; (· apply PS.loadG (vs := (l[i]).cells); (· rfl); (· rfl); (· exact hp.cells (by first | exact pickA | exact updA) h1); (· rfl)))
      refine CX.callF (m2C_c l[i]) ?_
      rw [decide_eq_true h2]
      rintro _ _ ⟨rfl, rfl⟩
      refine wk ?_
      (apply CQ.end1; (· rfl); (· exact .tmp rfl))
      · exact ⟨_, rfl, ⟨fun _ => ⟨l[i], List.getElem_mem h1, h2⟩, fun _ => by omega⟩, rfl⟩
      · exact selA
  · obtain rfl : i = l.length := by omega
    refine wk ?_
    (apply CQ.end1; (· rfl); (· exact .tmp rfl))
    · exact ⟨_, rfl, ⟨fun h => by omega, fun ⟨r, hr, hn⟩ => by
        obtain ⟨j, hj, rfl⟩ := List.getElem_of_mem hr
        exact absurd (hpre j hj hj) hn⟩, rfl⟩
    · exact selA
theorem conC_c (l : List ChV) (hl : l.length ≤ 9223372036854775806) (a : Option Addr) (cap : Nat) : Ctr Tryz.prog 77 [.slice a l.length cap, .func (.func 78) #[] #[]] [] (fun x => chAt a l x) (fun v M => v = .bool (decide (∃ r ∈ l, ¬ ChM.ok r.m)) ∧ M = []) := by
  refine Ctr.intro Tryz.func77 rfl Tryz.ntmps77 rfl fun x w hp => ?_
  refine wk ?_
  refine CX.callA (idxC_c l hl a cap) ?_ (hpre := by exact ch_ex (by first | exact pickA | exact updA) hp)
  rintro _ _ ⟨z, rfl, hz, rfl⟩
  rw [show decide (∃ r ∈ l, ¬ ChM.ok r.m) = decide (0 ≤ z) from decide_eq_decide.2 hz.symm]
  refine wk ?_
  ((apply CQ.end1; (· rfl); (· exact .tmp rfl)); (· exact ⟨rfl, rfl⟩); (· exact selA))
theorem mayC_c (l : List ChV) (hl : l.length ≤ 9223372036854775806) (a : Option Addr) (cap : Nat) : Ctr Tryz.prog 45 [.slice a l.length cap] [] (fun x => chAt a l x) (fun v M => v = .bool (decide (MayC (l.map ChV.m))) ∧ M = []) := by
  refine Ctr.intro Tryz.func45 rfl Tryz.ntmps45 rfl fun x w hp => ?_
  refine wk ?_
  refine CX.callA (risC_c l hl a cap) ?_ (hpre := by exact ch_ex (by first | exact pickA | exact updA) hp)
  by_cases h1 : RisingC (l.map ChV.m)
  · rw [decide_eq_true h1]
    rintro _ _ ⟨rfl, rfl⟩
    refine wk ?_
    refine CX.callA (conC_c l hl a cap) ?_ (hpre := by exact ch_ex (by first | exact pickA | exact updA) hp)
    by_cases h2 : ∃ r ∈ l, ¬ ChM.ok r.m
    · rw [decide_eq_true h2, decide_eq_false (fun h : MayC (l.map ChV.m) => by
        obtain ⟨r, hr, hn⟩ := h2
        exact hn (h.2 _ (List.mem_map_of_mem hr)))]
      rintro _ _ ⟨rfl, rfl⟩
      refine wk ?_
      ((apply CQ.end1; (· rfl); (· exact .tmp rfl)); (· exact ⟨rfl, rfl⟩); (· exact selA))
    · rw [decide_eq_false h2, decide_eq_true (show MayC (l.map ChV.m) from ⟨h1, fun c hc => by
        obtain ⟨r, hr, rfl⟩ := List.mem_map.1 hc
        exact Decidable.byContradiction fun hn => h2 ⟨r, hr, hn⟩⟩)]
      rintro _ _ ⟨rfl, rfl⟩
      refine wk ?_
      ((apply CQ.end1; (· rfl); (· exact .tmp rfl)); (· exact ⟨rfl, rfl⟩); (· exact selA))
  · rw [decide_eq_false h1, decide_eq_false (fun h : MayC (l.map ChV.m) => h1 h.1)]
    rintro _ _ ⟨rfl, rfl⟩
    refine wk ?_
    ((apply CQ.end1; (· rfl); (· exact .tmp rfl)); (· exact ⟨rfl, rfl⟩); (· exact selA))
end Go.Proofs.YtlckhaodecdbbaaGreatDoor
/-! Numbers as bytes (num), in the program. -/
namespace Go.Cx
theorem le_set (k n i : Nat) (hi : i < k) : (le i n ++ List.replicate (k - i) 0).set i (UInt8.ofNat (n / 256 ^ i)) = le (i + 1) n ++ List.replicate (k - (i + 1)) 0 := by
  rw [List.set_append_right _ _ (by simp), length_le, Nat.sub_self, le_snoc, List.append_assoc]
  congr 1
  rw [show k - i = (k - (i + 1)) + 1 by omega, List.replicate_succ]; rfl
theorem ofLe_step (B : Blk) (at_ k i : Nat) (hi : i < k) (h : at_ + k ≤ B.length) : ofLe ((B.drop (at_ + i)).take (k - i)) = (B[at_ + i]'(by omega)).toNat + 256 * ofLe ((B.drop (at_ + (i + 1))).take (k - (i + 1))) := by
  rw [List.drop_eq_getElem_cons (by omega), show k - i = (k - (i + 1)) + 1 by omega, List.take_succ_cons]
  simp only [ofLe, Nat.add_assoc]
theorem div_step (n i : Nat) : n / 256 ^ i / 2 ^ 8 = n / 256 ^ (i + 1) := by
  have : (2 : Nat) ^ 8 = 256 := rfl
  rw [this, Nat.div_div_eq_div_mul, Nat.pow_succ]
def okSize (k : Int) : Prop := k = 1 ∨ k = 2 ∨ k = 4 ∨ k = 8
instance (k : Int) : Decidable (okSize k) := by unfold okSize; infer_instance
/-- A number out of bytes, or an error. -/
def getN (B : Blk) (at_ k : Int) : Nat × Int :=
  if ¬ okSize k ∨ at_ < 0 ∨ (B.length : Int) < at_ then (0, 2) else if (B.length : Int) - at_ < k then (0, 4) else (ofLe ((B.drop at_.toNat).take k.toNat), 0)
theorem pow_size {k : Nat} (hk : k = 1 ∨ k = 2 ∨ k = 4 ∨ k = 8) : 256 ^ k ≤ 18446744073709551616 := by rcases hk with rfl | rfl | rfl | rfl <;> decide
end Go.Cx
namespace Go.Proofs.YtlckhaodecdbbaaGreatDoor
open Go.Cx
attribute [local irreducible] Go.Cx.CX Go.Cx.CC Go.Cx.CQ Go.Cx.PS Go.Cx.Ctr Go.Cx.CH
set_option maxRecDepth 10000
theorem nsize_c (k : Int) (hk : -9223372036854775808 ≤ k ∧ k ≤ 9223372036854775807) : Ctr Tryz.prog 141 [.int .i64 k] [] (fun _ => True) (fun v M => v = .bool (decide (okSize k)) ∧ M = []) := by
  refine Ctr.intro Tryz.func141 rfl Tryz.ntmps141 rfl fun x w hp => ?_
  by_cases h1 : k ≤ 0
  · refine wk ?_
    ((apply CQ.end1; (· rfl); (· exact .tmp rfl)); (· exact ⟨by simp [show ¬ okSize k by unfold okSize; omega], rfl⟩); (· exact selA))
  by_cases h2 : 8 < k
  · refine wk ?_
    ((apply CQ.end1; (· rfl); (· exact .tmp rfl)); (· exact ⟨by simp [show ¬ okSize k by unfold okSize; omega], rfl⟩); (· exact selA))
  have h3 : k = 1 ∨ k = 2 ∨ k = 3 ∨ k = 4 ∨ k = 5 ∨ k = 6 ∨ k = 7 ∨ k = 8 := by omega
  clear hk
  rcases h3 with rfl | rfl | rfl | rfl | rfl | rfl | rfl | rfl
  · refine wk ?_
    refine CX.ps (PS.andI 1 0 (by decide) (by decide) rfl rfl rfl) ?_
    refine wk ?_
    ((apply CQ.end1; (· rfl); (· exact .tmp rfl)); (· exact ⟨rfl, rfl⟩); (· exact selA))
  · refine wk ?_
    refine CX.ps (PS.andI 2 1 (by decide) (by decide) rfl rfl rfl) ?_
    refine wk ?_
    ((apply CQ.end1; (· rfl); (· exact .tmp rfl)); (· exact ⟨rfl, rfl⟩); (· exact selA))
  · refine wk ?_
    refine CX.ps (PS.andI 3 2 (by decide) (by decide) rfl rfl rfl) ?_
    refine wk ?_
    ((apply CQ.end1; (· rfl); (· exact .tmp rfl)); (· exact ⟨rfl, rfl⟩); (· exact selA))
  · refine wk ?_
    refine CX.ps (PS.andI 4 3 (by decide) (by decide) rfl rfl rfl) ?_
    refine wk ?_
    ((apply CQ.end1; (· rfl); (· exact .tmp rfl)); (· exact ⟨rfl, rfl⟩); (· exact selA))
  · refine wk ?_
    refine CX.ps (PS.andI 5 4 (by decide) (by decide) rfl rfl rfl) ?_
    refine wk ?_
    ((apply CQ.end1; (· rfl); (· exact .tmp rfl)); (· exact ⟨rfl, rfl⟩); (· exact selA))
  · refine wk ?_
    refine CX.ps (PS.andI 6 5 (by decide) (by decide) rfl rfl rfl) ?_
    refine wk ?_
    ((apply CQ.end1; (· rfl); (· exact .tmp rfl)); (· exact ⟨rfl, rfl⟩); (· exact selA))
  · refine wk ?_
    refine CX.ps (PS.andI 7 6 (by decide) (by decide) rfl rfl rfl) ?_
    refine wk ?_
    ((apply CQ.end1; (· rfl); (· exact .tmp rfl)); (· exact ⟨rfl, rfl⟩); (· exact selA))
  · refine wk ?_
    refine CX.ps (PS.andI 8 7 (by decide) (by decide) rfl rfl rfl) ?_
    refine wk ?_
    ((apply CQ.end1; (· rfl); (· exact .tmp rfl)); (· exact ⟨rfl, rfl⟩); (· exact selA))
theorem nput_c (n k : Nat) (hk : k = 1 ∨ k = 2 ∨ k = 4 ∨ k = 8) (hn : n < 256 ^ k) : Ctr Tryz.prog 126 [.int .u64 (n : Int), .int .i64 (k : Int)] [] (fun _ => True)
    (fun v M => ∃ b, v = .tuple #[.slice (some ⟨b, 0, none⟩) k k, .int .i64 0] ∧ M = [own 5 1 (some ⟨b, 0, none⟩) k k (cb (le k n))]) := by
  have hp64 := pow_size hk
  have hd : decide (okSize (k : Int)) = true := decide_eq_true (by unfold okSize; omega)
  refine Ctr.intro Tryz.func126 rfl Tryz.ntmps126 rfl fun x w hp => ?_
  refine wk ?_
  (have cc := nsize_c (k : Int) (by omega); simp only [hd] at cc; refine CX.callA cc ?_; clear cc; rintro _ _ ⟨rfl, rfl⟩)
  refine wk ?_
  (refine CX.makeB (k) (by omega) ?_; intro b)
  refine wk ?_
  refine CC.loop (X := Nat) (fun i => [(6, .slice (some ⟨b, 0, none⟩) k k), (15, .int .i64 (i : Int)), (14, .int .i64 (k : Int)), (0, .int .u64 ((n / 256 ^ i : Nat) : Int))])
    (fun i => [own 5 1 (some ⟨b, 0, none⟩) k k (cb (le i n ++ List.replicate (k - i) 0)), exact x]) (fun i => i ≤ k) (fun i => k - i) 0 (Nat.zero_le _) ⟨rfl, rfl, rfl, eqI (by simp), trivial⟩ (by exact selA) ?_
  intro i hi
  have hle : n / 256 ^ i ≤ n := Nat.div_le_self _ _
  by_cases h1 : i < k
  · refine wk ?_
    refine CX.ps (PS.convM (n / 256 ^ i) (UInt8.ofNat (n / 256 ^ i)).toNat rfl (by simp [IntKind.bits]) rfl rfl) ?_
    refine wk ?_
    refine CX.ps (PS.shrN (n / 256 ^ i) 8 (by decide) rfl rfl rfl) ?_
    (refine CX.index0 (i) ?_ ?_; (· exact h1))
    (refine CX.storeOB (i) (UInt8.ofNat (n / 256 ^ i)) ?_ ?_ ?_; (· simp; omega); (· simp; omega))
    rw [le_set k n i h1]
    refine wk ?_
    exact CQ.round (i + 1) (by omega) (by omega) ⟨rfl, eqI (by omega), rfl, eqI (by rw [div_step]), trivial⟩ (by exact selA)
  · obtain rfl : i = k := by omega
    have e : ((n / 256 ^ i : Nat) : Int) = 0 := by rw [Nat.div_eq_of_lt hn]; rfl
    rw [e, Nat.sub_self, List.replicate_zero, List.append_nil]
    refine wk ?_
    ((apply CQ.end2; (· rfl); (· exact .tmp rfl); (· exact .tmp rfl)); (· exact ⟨b, rfl, rfl⟩); (· exact selA))
theorem nget_c (B : Blk) (a : Option Addr) (cap : Nat) (at_ k : Int) (hB : B.length ≤ 9223372036854775807) (ha : -9223372036854775808 ≤ at_ ∧ at_ ≤ 9223372036854775807) (hk : -9223372036854775808 ≤ k ∧ k ≤ 9223372036854775807) :
    Ctr Tryz.prog 96 [.slice a B.length cap, .int .i64 at_, .int .i64 k] [] (fun x => rdx a B.length (cb B) x) (fun v M => v = .tuple #[.int .u64 ((getN B at_ k).1 : Int), .int .i64 (getN B at_ k).2] ∧ M = []) := by
  refine Ctr.intro Tryz.func96 rfl Tryz.ntmps96 rfl fun x w hp => ?_
  refine wk ?_
  by_cases hs : okSize k
  · (have cc := nsize_c k hk; simp only [decide_eq_true hs] at cc; refine CX.callA cc ?_; clear cc; rintro _ _ ⟨rfl, rfl⟩)
    by_cases h1 : at_ < 0
    · have e : getN B at_ k = (0, 2) := by unfold getN; rw [if_pos (.inr (.inl h1))]
      refine wk ?_
      rw [e]
      (apply CQ.end2; (· rfl); (· exact .tmp rfl); (· exact .tmp rfl))
      · exact ⟨rfl, rfl⟩
      · exact selA
    by_cases h2 : (B.length : Int) < at_
    · have e : getN B at_ k = (0, 2) := by unfold getN; rw [if_pos (.inr (.inr h2))]
      refine wk ?_
      rw [e]
      (apply CQ.end2; (· rfl); (· exact .tmp rfl); (· exact .tmp rfl))
      · exact ⟨rfl, rfl⟩
      · exact selA
    by_cases h3 : (B.length : Int) - at_ < k
    · have e : getN B at_ k = (0, 4) := by unfold getN; rw [if_neg (by rintro (h | h | h) <;> first | exact h hs | omega), if_pos h3]
      refine wk ?_
      rw [e]
      (apply CQ.end2; (· rfl); (· exact .tmp rfl); (· exact .tmp rfl))
      · exact ⟨rfl, rfl⟩
      · exact selA
    obtain ⟨p, rfl⟩ : ∃ p : Nat, at_ = p := ⟨at_.toNat, by omega⟩
    obtain ⟨q, rfl⟩ : ∃ q : Nat, k = q := ⟨k.toNat, by unfold okSize at hs; omega⟩
    have hq : q = 1 ∨ q = 2 ∨ q = 4 ∨ q = 8 := by unfold okSize at hs; omega
    have e : getN B p q = (ofLe ((B.drop p).take q), 0) := by unfold getN; rw [if_neg (by rintro (h | h | h) <;> first | exact h hs | omega), if_neg h3]; rfl
    have hp64 := pow_size hq
    rw [e]
    obtain ⟨g, off, rfl⟩ := rdx_some hp (by omega)
    refine wk ?_
    refine CC.loop (X := Nat) (fun i => [(8, .int .i64 ((i : Int) - 1)), (6, .int .u64 ((ofLe ((B.drop (p + i)).take (q - i)) : Nat) : Int)), (0, .slice (some ⟨g, off, none⟩) B.length cap), (1, .int .i64 (p : Int))])
      (fun i => [exact x]) (fun i => i ≤ q) (fun i => i) q (Nat.le_refl _) ⟨rfl, eqI (by simp [ofLe]), rfl, rfl, trivial⟩ (by exact selA) ?_
    intro i hi
    cases i with
    | zero =>
      refine wk ?_
      (apply CQ.end2; (· rfl); (· exact .tmp rfl); (· exact .tmp rfl))
      · exact ⟨rfl, rfl⟩
      · exact selA
    | succ i =>
      have h5 : p + i < B.length := by omega
      have hlt := ofLe_lt ((B.drop (p + (i + 1))).take (q - (i + 1)))
      have hl : ((B.drop (p + (i + 1))).take (q - (i + 1))).length = q - (i + 1) := by simp; omega
      rw [hl] at hlt
      have hpw : 256 ^ (q - (i + 1)) * 256 ≤ 18446744073709551616 := by
        rw [← Nat.pow_succ]; exact Nat.le_trans (Nat.pow_le_pow_right (by omega) (by omega)) hp64
      have hstep := ofLe_step B p q i (by omega) (by omega)
      have hb := (B[p + i]'h5).toNat_lt
      generalize ofLe ((B.drop (p + (i + 1))).take (q - (i + 1))) = acc at hlt hstep
      refine wk ?_
      refine CX.ps (PS.shlN acc 8 rfl (by decide) (by simp only [IntKind.bits]; omega) rfl rfl rfl) ?_
      refine wk ?_
      (refine CX.indexA (p + i) ?_ ?_; (· exact h5))
      (refine CX.loadA _ (CellAt.rd (j := p + i) (by first | exact pickA | exact updA) hp rfl h5) ?_)
      refine wk ?_
      refine CX.ps (PS.orN (acc * 2 ^ 8) (B[p + i]'h5).toNat rfl (by simp only [IntKind.bits]; omega) (by simp only [IntKind.bits]; omega) rfl rfl rfl) ?_
      refine wk ?_
      exact CQ.round i (by omega) (by omega) ⟨eqI (by omega), eqI (by rw [hstep, or_low (by omega)]; omega), rfl, rfl, trivial⟩ (by exact selA)
  · (have cc := nsize_c k hk; simp only [decide_eq_false hs] at cc; refine CX.callA cc ?_; clear cc; rintro _ _ ⟨rfl, rfl⟩)
    have e : getN B at_ k = (0, 2) := by unfold getN; rw [if_pos (.inl hs)]
    refine wk ?_
    rw [e]
    (apply CQ.end2; (· rfl); (· exact .tmp rfl); (· exact .tmp rfl))
    · exact ⟨rfl, rfl⟩
    · exact selA
end Go.Proofs.YtlckhaodecdbbaaGreatDoor
/-! Rows as bytes (num.Row, num.GetRow), in the program. -/
namespace Go.Cx
theorem rdS_of {L : List Assn} {a : Option Addr} {m : Nat} {B : Blk} (h : ∀ y, Sep L y → rdx a m (cb B) y) (hl : m = B.length) : RdS L a (m * 1) (cb B) :=
  ⟨one_cb B, fun y hy => ⟨by simp [hl], by have := h y hy; unfold rdx at this; simpa using this⟩⟩
theorem cutAt_zero (b o m sz : Nat) : cutAt (some ⟨b, o, none⟩) 0 m sz = some ⟨b, o, none⟩ := by
  unfold cutAt; split <;> simp [addr_add]
theorem getN_four {B : Blk} {at_ : Nat} : getN B (at_ : Int) 4 = if B.length < at_ then (0, 2) else if B.length - at_ < 4 then (0, 4) else (ofLe ((B.drop at_).take 4), 0) := by
  unfold getN
  have h4 : okSize 4 := by unfold okSize; omega
  by_cases h1 : B.length < at_
  · rw [if_pos h1, if_pos (.inr (.inr (by omega)))]
  · rw [if_neg h1, if_neg (by rintro (h | h | h) <;> first | exact h h4 | omega)]
    by_cases h2 : B.length - at_ < 4
    · rw [if_pos h2, if_pos (by omega)]
    · rw [if_neg h2, if_neg (by omega)]; simp
end Go.Cx
namespace Go.Proofs.YtlckhaodecdbbaaGreatDoor
open Go.Cx
attribute [local irreducible] Go.Cx.CX Go.Cx.CC Go.Cx.CQ Go.Cx.PS Go.Cx.Ctr Go.Cx.CH
set_option maxRecDepth 10000
theorem row_c (B : Blk) (hB : B.length ≤ 1073741824) (a : Option Addr) (cap : Nat) (hn : a = none → B.length = 0 ∧ cap = 0) : Ctr Tryz.prog 127 [.slice a B.length cap] [] (fun x => rdx a B.length (cb B) x)
    (fun v M => ∃ b c, v = .slice (some ⟨b, 0, none⟩) (4 + B.length) c ∧ M = [own 5 1 (some ⟨b, 0, none⟩) (4 + B.length) c (cb (rowB B))]) := by
  refine Ctr.intro Tryz.func127 rfl Tryz.ntmps127 rfl fun x w hp => ?_
  refine wk ?_
  refine CX.callA (nput_c B.length 4 (by omega) (by omega)) ?_
  rintro _ _ ⟨b, rfl, rfl⟩
  refine wk ?_
  refine CX.append (m := B.length) (news := cb B) rfl rfl rfl (by first | exact pickA | exact updA) (rdS_of (rdx_ex (by first | exact pickA | exact updA) hp) rfl) (by omega) hn ?_
  intro a' c'
  have e : cb (le 4 B.length) ++ cb B = cb (rowB B) := by simp [rowB, cb_append]
  rw [e]
  refine CX.fact (own_fact (e := 5) (by first | exact pickA | exact updA) (by omega)) ?_
  rintro ⟨hc1, q, rfl⟩
  refine wk ?_
  (apply CQ.end1; (· rfl); (· exact .tmp rfl))
  · exact ⟨q, c', rfl, rfl⟩
  · exact selA
def GotRow (B : Blk) (at_ most : Nat) (v : Value) (M : List Assn) : Prop :=
  ∃ a c, v = .tuple #[.slice a (Cx.rowAt B at_ most).1.length c, .int .i64 ((Cx.rowAt B at_ most).2.1 : Int), .int .i64 (Cx.rowAt B at_ most).2.2] ∧ M = [own 5 1 a (Cx.rowAt B at_ most).1.length c (cb (Cx.rowAt B at_ most).1)]
theorem getrow_c (B : Blk) (hB : B.length ≤ 70368744177664) (a : Option Addr) (cap : Nat) (hcap : B.length ≤ cap) (at_ most : Nat) (hat : at_ ≤ 70368744177664) (hm : most ≤ 1073741824) : Ctr Tryz.prog 138 [.slice a B.length cap, .int .i64 (at_ : Int), .int .i64 (most : Int)] [] (fun x => rdx a B.length (cb B) x)
    (GotRow B at_ most) := by
  unfold GotRow
  refine Ctr.intro Tryz.func138 rfl Tryz.ntmps138 rfl fun x w hp => ?_
  refine wk ?_
  refine CX.callA (nget_c B a cap (at_ : Int) 4 (by omega) (by omega) (by omega)) ?_ (hpre := by exact rdx_ex (by first | exact pickA | exact updA) hp)
  rw [getN_four]
  by_cases h1 : B.length < at_
  · have e : Cx.rowAt B at_ most = ([], 0, 2) := by unfold Cx.rowAt; rw [if_pos h1]
    rw [if_pos h1, e]
    rintro _ _ ⟨rfl, rfl⟩
    refine wk ?_
    refine CQ.ownNil 5 1 ?_
    (apply CQ.end3; (· rfl); (· exact .tmp rfl); (· exact .tmp rfl); (· exact .tmp rfl))
    · exact ⟨none, 0, rfl, rfl⟩
    · exact selA
  by_cases h2 : B.length - at_ < 4
  · have e : Cx.rowAt B at_ most = ([], 0, 4) := by unfold Cx.rowAt; rw [if_neg h1, if_pos h2]
    rw [if_neg h1, if_pos h2, e]
    rintro _ _ ⟨rfl, rfl⟩
    refine wk ?_
    refine CQ.ownNil 5 1 ?_
    (apply CQ.end3; (· rfl); (· exact .tmp rfl); (· exact .tmp rfl); (· exact .tmp rfl))
    · exact ⟨none, 0, rfl, rfl⟩
    · exact selA
  have hn32 := ofLe_lt ((B.drop at_).take 4)
  rw [show ((B.drop at_).take 4).length = 4 by simp; omega] at hn32
  have hrow : Cx.rowAt B at_ most = if most < ofLe ((B.drop at_).take 4) then ([], 0, 3) else if B.length - (at_ + 4) < ofLe ((B.drop at_).take 4) then ([], 0, 4)
    else ((B.drop (at_ + 4)).take (ofLe ((B.drop at_).take 4)), at_ + 4 + ofLe ((B.drop at_).take 4), 0) := by
    unfold Cx.rowAt; rw [if_neg h1, if_neg h2]
  rw [if_neg h1, if_neg h2]
  generalize ofLe ((B.drop at_).take 4) = k at hn32 hrow
  rintro _ _ ⟨rfl, rfl⟩
  by_cases h3 : most < k
  · rw [hrow, if_pos h3]
    refine wk ?_
    refine CQ.ownNil 5 1 ?_
    (apply CQ.end3; (· rfl); (· exact .tmp rfl); (· exact .tmp rfl); (· exact .tmp rfl))
    · exact ⟨none, 0, rfl, rfl⟩
    · exact selA
  obtain ⟨g, off, rfl⟩ := rdx_some hp (by omega)
  by_cases h4 : B.length - (at_ + 4) < k
  · rw [hrow, if_neg h3, if_pos h4]
    refine wk ?_
    refine CX.ps (PS.sliceLo (l := at_ + 4) rfl rfl rfl (by simp) (by omega) (by omega)) ?_
    refine wk ?_
    refine CQ.ownNil 5 1 ?_
    (apply CQ.end3; (· rfl); (· exact .tmp rfl); (· exact .tmp rfl); (· exact .tmp rfl))
    · exact ⟨none, 0, rfl, rfl⟩
    · exact selA
  · rw [hrow, if_neg h3, if_neg h4]
    have hlen : ((B.drop (at_ + 4)).take k).length = k := by simp; omega
    refine wk ?_
    refine CX.ps (PS.sliceLo (l := at_ + 4) rfl rfl rfl (by simp) (by omega) (by omega)) ?_
    refine wk ?_
    refine CX.ps (PS.slice3 (l := 0) (h := k) (m := k) rfl rfl rfl rfl rfl (.inl ⟨rfl, rfl⟩) ⟨_, rfl⟩ (by omega) (by omega) (by omega)) ?_
    rw [cutAt_zero]
    refine CX.ownNil 5 1 ?_
    have hr : ∀ y, Sep [own 5 1 none 0 0 [], exact x] y → rdx (some ⟨g, if cap = at_ + 4 then off else off + (at_ + 4) * 1, none⟩) (k - 0) (cb ((B.drop (at_ + 4)).take k)) y := fun y hy => by
      by_cases hc : cap = at_ + 4
      · exact .inl (by omega)
      · rw [if_neg hc, Nat.mul_one, Nat.sub_zero]
        exact rdx_part rfl (rdx_ex (show Pick (exact x) [own 5 1 none 0 0 [], exact x] _ from by first | exact pickA | exact updA) hp y hy) rfl (at_ + 4) k (by omega)
    refine CX.append (m := k - 0) (c := k - 0) (news := cb ((B.drop (at_ + 4)).take k)) rfl rfl rfl (by first | exact pickA | exact updA) (rdS_of hr (by omega)) (by omega) (fun h => by cases h) ?_
    intro a' c'
    rw [List.nil_append, Nat.zero_add, Nat.sub_zero]
    refine wk ?_
    (apply CQ.end3; (· rfl); (· exact .tmp rfl); (· exact .tmp rfl); (· exact .tmp rfl))
    · exact ⟨a', c', by rw [hlen]; simp, by rw [hlen]⟩
    · exact selA
end Go.Proofs.YtlckhaodecdbbaaGreatDoor
/-! One change out of bytes (batch.one), in the program. -/
namespace Go.Cx
theorem one_err {B : Blk} {at_ : Nat} (h : (Cx.rowAt B at_ 16).2.2 ≠ 0) : oneB B at_ = (⟨[], [], false⟩, 0, (Cx.rowAt B at_ 16).2.2) := by unfold oneB; rw [if_pos h]
theorem one_end {B : Blk} {at_ : Nat} (h : (Cx.rowAt B at_ 16).2.2 = 0) (h2 : (Cx.rowAt B at_ 16).2.1 = B.length) : oneB B at_ = (⟨[], [], false⟩, 0, 4) := by unfold oneB; rw [if_neg (by simp [h]), if_pos h2]
theorem one_gone {B : Blk} {at_ : Nat} (h : (Cx.rowAt B at_ 16).2.2 = 0) (h2 : (Cx.rowAt B at_ 16).2.1 ≠ B.length) (h3 : B.getD (Cx.rowAt B at_ 16).2.1 0 = 1) : oneB B at_ = (⟨(Cx.rowAt B at_ 16).1, [], true⟩, (Cx.rowAt B at_ 16).2.1 + 1, 0) := by
  unfold oneB; rw [if_neg (by simp [h]), if_neg h2, h3]; rfl
theorem one_val {B : Blk} {at_ : Nat} (h : (Cx.rowAt B at_ 16).2.2 = 0) (h2 : (Cx.rowAt B at_ 16).2.1 ≠ B.length) (h3 : B.getD (Cx.rowAt B at_ 16).2.1 0 = 0) : oneB B at_ = (⟨(Cx.rowAt B at_ 16).1, (Cx.rowAt B ((Cx.rowAt B at_ 16).2.1 + 1) 1048576).1, false⟩, (Cx.rowAt B ((Cx.rowAt B at_ 16).2.1 + 1) 1048576).2) := by
  unfold oneB; rw [if_neg (by simp [h]), if_neg h2, h3]; rfl
theorem one_form {B : Blk} {at_ : Nat} (h : (Cx.rowAt B at_ 16).2.2 = 0) (h2 : (Cx.rowAt B at_ 16).2.1 ≠ B.length) (h3 : B.getD (Cx.rowAt B at_ 16).2.1 0 ≠ 1) (h4 : B.getD (Cx.rowAt B at_ 16).2.1 0 ≠ 0) : oneB B at_ = (⟨(Cx.rowAt B at_ 16).1, [], false⟩, 0, 5) := by
  unfold oneB; rw [if_neg (by simp [h]), if_neg h2]
  split <;> first | contradiction | rfl
theorem u8_int {x y : UInt8} (h : x = y) : (x.toNat : Int) = y.toNat := by rw [h]
theorem u8_ne {x y : UInt8} (h : x ≠ y) : ¬ (x.toNat : Int) = y.toNat := fun e => h (UInt8.toNat_inj.1 (by omega))
def GotOne (e : TypeId) (r : ChM × Nat × Int) (v : Value) (M : List Assn) : Prop :=
  ∃ a c, v = .tuple #[.agg (ChV.cells ⟨r.1.key, ⟨a, r.1.val, c⟩, r.1.gone⟩).toArray, .int .i64 (r.2.1 : Int), .int .i64 r.2.2] ∧ M = [own e 1 a r.1.val.length c (cb r.1.val)]
end Go.Cx
namespace Go.Proofs.YtlckhaodecdbbaaGreatDoor
open Go.Cx
attribute [local irreducible] Go.Cx.CX Go.Cx.CC Go.Cx.CQ Go.Cx.PS Go.Cx.Ctr Go.Cx.CH
set_option maxRecDepth 10000
theorem one_c (B : Blk) (hB : B.length ≤ 70368744000000) (a : Option Addr) (cap : Nat) (hcap : B.length ≤ cap) (at_ : Nat) (hat : at_ ≤ 70368744000000) : Ctr Tryz.prog 97 [.slice a B.length cap, .int .i64 (at_ : Int)] [] (fun x => rdx a B.length (cb B) x)
    (GotOne 5 (oneB B at_)) := by
  unfold GotOne
  refine Ctr.intro Tryz.func97 rfl Tryz.ntmps97 rfl fun x w hp => ?_
  refine wk ?_
  refine CX.allocZ [sv [], .slice none 0 0, .bool false] ?_ (hv := rfl)
  intro b
  refine wk ?_
  refine CX.callA (getrow_c B (by omega) a cap hcap at_ 16 (by omega) (by omega)) ?_ (hpre := by exact rdx_ex (by first | exact pickA | exact updA) hp)
  rintro _ _ ⟨a1, c1, rfl, rfl⟩
  by_cases h1 : (Cx.rowAt B at_ 16).2.2 = 0
  · obtain ⟨hd, hnx, hle, hk16, hal⟩ := rowAt_inv (b := B) (r := (Cx.rowAt B at_ 16).1) (at_ := at_) (most := 16) (nx := (Cx.rowAt B at_ 16).2.1) (by rw [← h1])
    by_cases h2 : (Cx.rowAt B at_ 16).2.1 = B.length
    · rw [one_end h1 h2, h1]
      generalize Cx.rowAt B at_ 16 = q at *
      refine wk ?_
      (apply CX.ps; (· apply PS.loadG (vs := [sv [], .slice none 0 0, .bool false]); (· rfl); (· rfl); (· exact CellsAt.all (by first | exact pickA | exact updA)); (· rfl)))
      (refine CX.storeB (vs := [sv [], .slice none 0 0, .bool false]) ?_ ?_ ?_ ?_; (· rfl); (· rfl); (· exact one_all rfl))
      refine wk ?_
      refine CQ.ownNil 5 1 ?_
      (apply CQ.end3; (· rfl); (· exact .cells inferInstance rfl (CellsAt.all (by first | exact pickA | exact updA)) (rfl)); (· exact .tmp rfl); (· exact .tmp rfl))
      · exact ⟨none, 0, rfl, rfl⟩
      · exact selA
    · have hlt : (Cx.rowAt B at_ 16).2.1 < B.length := by omega
      have hgd : B.getD (Cx.rowAt B at_ 16).2.1 0 = B[(Cx.rowAt B at_ 16).2.1] := by simp [List.getD, hlt]
      obtain ⟨g, off, rfl⟩ := rdx_some hp (by omega)
      by_cases h3 : B[(Cx.rowAt B at_ 16).2.1] = 1
      · rw [one_gone h1 h2 (by rw [hgd]; exact h3), h1]
        have h3' := u8_int h3
        generalize Cx.rowAt B at_ 16 = q at *
        refine wk ?_
        refine CX.ps (PS.toStr rfl rfl rfl (rdx_own (by first | exact pickA | exact updA) rfl)) ?_
        refine wk ?_
        (refine CX.indexA (q.2.1) ?_ ?_; (· exact hlt))
        (refine CX.loadA _ (CellAt.rd (j := q.2.1) (by first | exact pickA | exact updA) hp rfl hlt) ?_)
        rw [h3']
        refine wk ?_
        (apply CX.ps; (· apply PS.loadG (vs := [sv q.1, .slice none 0 0, .bool true]); (· rfl); (· rfl); (· exact CellsAt.all (by first | exact pickA | exact updA)); (· rfl)))
        refine wk ?_
        (refine CX.storeB (vs := [sv q.1, .slice none 0 0, .bool true]) ?_ ?_ ?_ ?_; (· rfl); (· rfl); (· exact one_all rfl))
        refine wk ?_
        refine CQ.ownNil 5 1 ?_
        (apply CQ.end3; (· rfl); (· exact .cells inferInstance rfl (CellsAt.all (by first | exact pickA | exact updA)) (rfl)); (· exact .tmp rfl); (· exact .tmp rfl))
        · exact ⟨none, 0, rfl, rfl⟩
        · exact selA
      · by_cases h4 : B[(Cx.rowAt B at_ 16).2.1] = 0
        · rw [one_val h1 h2 (by rw [hgd]; exact h4), h1]
          have h4' := u8_int h4
          have gr := getrow_c B (by omega) (some ⟨g, off, none⟩) cap hcap ((Cx.rowAt B at_ 16).2.1 + 1) 1048576 (by omega) (by omega)
          unfold GotRow at gr
          generalize Cx.rowAt B ((Cx.rowAt B at_ 16).2.1 + 1) 1048576 = q2 at *
          generalize Cx.rowAt B at_ 16 = q at *
          refine wk ?_
          refine CX.ps (PS.toStr rfl rfl rfl (rdx_own (by first | exact pickA | exact updA) rfl)) ?_
          refine wk ?_
          (refine CX.indexA (q.2.1) ?_ ?_; (· exact hlt))
          (refine CX.loadA _ (CellAt.rd (j := q.2.1) (by first | exact pickA | exact updA) hp rfl hlt) ?_)
          rw [h4']
          refine wk ?_
          refine CX.callA (gr) ?_ (hpre := by exact rdx_ex (by first | exact pickA | exact updA) hp)
          rintro _ _ ⟨a2, c2, rfl, rfl⟩
          refine wk ?_
          (apply CX.ps; (· apply PS.loadG (vs := [sv q.1, .slice a2 q2.1.length c2, .bool false]); (· rfl); (· rfl); (· exact CellsAt.all (by first | exact pickA | exact updA)); (· rfl)))
          refine wk ?_
          (refine CX.storeB (vs := [sv q.1, .slice a2 q2.1.length c2, .bool false]) ?_ ?_ ?_ ?_; (· rfl); (· rfl); (· exact one_all rfl))
          refine wk ?_
          (apply CQ.end3; (· rfl); (· exact .cells inferInstance rfl (CellsAt.all (by first | exact pickA | exact updA)) (rfl)); (· exact .tmp rfl); (· exact .tmp rfl))
          · exact ⟨a2, c2, rfl, rfl⟩
          · exact selA
        · rw [one_form h1 h2 (by rw [hgd]; exact h3) (by rw [hgd]; exact h4), h1]
          have h3' := u8_ne h3
          have h4' := u8_ne h4
          have e1 : ((1 : UInt8).toNat : Int) = 1 := rfl
          have e0 : ((0 : UInt8).toNat : Int) = 0 := rfl
          rw [e1] at h3'
          rw [e0] at h4'
          generalize Cx.rowAt B at_ 16 = q at *
          refine wk ?_
          refine CX.ps (PS.toStr rfl rfl rfl (rdx_own (by first | exact pickA | exact updA) rfl)) ?_
          refine wk ?_
          (refine CX.indexA (q.2.1) ?_ ?_; (· exact hlt))
          (refine CX.loadA _ (CellAt.rd (j := q.2.1) (by first | exact pickA | exact updA) hp rfl hlt) ?_)
          refine wk ?_
          (apply CX.ps; (· apply PS.loadG (vs := [sv q.1, .slice none 0 0, .bool false]); (· rfl); (· rfl); (· exact CellsAt.all (by first | exact pickA | exact updA)); (· rfl)))
          (refine CX.storeB (vs := [sv q.1, .slice none 0 0, .bool false]) ?_ ?_ ?_ ?_; (· rfl); (· rfl); (· exact one_all rfl))
          refine wk ?_
          refine CQ.ownNil 5 1 ?_
          (apply CQ.end3; (· rfl); (· exact .cells inferInstance rfl (CellsAt.all (by first | exact pickA | exact updA)) (rfl)); (· exact .tmp rfl); (· exact .tmp rfl))
          · exact ⟨none, 0, rfl, rfl⟩
          · exact selA
  · rw [one_err h1]
    generalize Cx.rowAt B at_ 16 = q at *
    refine wk ?_
    (apply CX.ps; (· apply PS.loadG (vs := [sv [], .slice none 0 0, .bool false]); (· rfl); (· rfl); (· exact CellsAt.all (by first | exact pickA | exact updA)); (· rfl)))
    refine wk ?_
    (refine CX.storeB (vs := [sv [], .slice none 0 0, .bool false]) ?_ ?_ ?_ ?_; (· rfl); (· rfl); (· exact one_all rfl))
    refine wk ?_
    refine CQ.ownNil 5 1 ?_
    (apply CQ.end3; (· rfl); (· exact .cells inferInstance rfl (CellsAt.all (by first | exact pickA | exact updA)) (rfl)); (· exact .tmp rfl); (· exact .tmp rfl))
    · exact ⟨none, 0, rfl, rfl⟩
    · exact selA
end Go.Proofs.YtlckhaodecdbbaaGreatDoor
/-! What bytes leave when they are divided (crc), in the program. -/
namespace Go.Cx
def fourT : List Nat := [0, 274646895, 549293790, 820201905, 1098587580, 1361435347, 1640403810, 1905808397, 2197175160, 2460548119, 2722870694, 2987750089, 3280807620, 3553878443, 3811616794, 4084100981]
def fourC : List Value := fourT.map fun z : Nat => .int .u32 (z : Int)
theorem four_at : ∀ j, j < 16 → fourT[j]? = some (four j) := by decide
theorem fourC_at (j : Nat) (h : j < 16) : fourC[0 + j * 1]? = some (.int .u32 (four j : Int)) := by
  rw [Nat.zero_add, Nat.mul_one, fourC, List.getElem?_map, four_at j h]; rfl
theorem four_lt (j : Nat) (h : j < 16) : four j < 2 ^ 32 := bits_lt 4 (by omega)
theorem and15 (a : Nat) : a &&& 15 = a % 16 := by rw [show (15 : Nat) = 2 ^ 4 - 1 from rfl, Nat.and_two_pow_sub_one_eq_mod]
theorem half_of (c : UInt8) : c.toNat &&& 15 < 16 ∧ c.toNat >>> 4 < 16 := by
  have := c.toNat_lt
  rw [and15, Nat.shiftRight_eq_div_pow]; omega
end Go.Cx
namespace Go.Proofs.YtlckhaodecdbbaaGreatDoor
open Go.Cx
attribute [local irreducible] Go.Cx.CX Go.Cx.CC Go.Cx.CQ Go.Cx.PS Go.Cx.Ctr Go.Cx.CH
set_option maxRecDepth 10000
theorem fours_c : Ctr Tryz.prog 201 [] [] (fun _ => True) (fun v M => v = .agg fourC.toArray ∧ M = []) := by
  refine Ctr.intro Tryz.func201 rfl Tryz.ntmps201 rfl fun x w hp => ?_
  refine wk ?_
  (refine CX.allocA ?_; intro r)
  refine wk ?_
  (apply CX.ps; (· apply PS.buildArr (out := fourC); (· rfl); (· rfl); (· rfl)))
  (refine CX.storeB (vs := fourC) ?_ ?_ ?_ ?_; (· rfl); (· rfl); (· exact one_all rfl))
  refine wk ?_
  ((apply CQ.end1; (· rfl); (· exact .cells inferInstance rfl (CellsAt.all (by first | exact pickA | exact updA)) (rfl))); (· exact ⟨rfl, rfl⟩); (· exact selA))
theorem into_c (r : Nat) (hr : r < 2 ^ 32) (c : UInt8) : Ctr Tryz.prog 199 [.int .u32 (r : Int), .int .u8 (c.toNat : Int)] [] (fun _ => True) (fun v M => v = .int .u32 ((intoM r c : Nat) : Int) ∧ M = []) := by
  obtain ⟨h1, h2⟩ := half_of c
  have hc := c.toNat_lt
  refine Ctr.intro Tryz.func199 rfl Tryz.ntmps199 rfl fun x w hp => ?_
  refine wk ?_
  refine CX.callA (fours_c) ?_
  rintro _ _ ⟨rfl, rfl⟩
  refine wk ?_
  (refine CX.allocA ?_; intro t)
  refine wk ?_
  (refine CX.storeB (vs := fourC) ?_ ?_ ?_ ?_; (· rfl); (· rfl); (· exact one_all rfl))
  refine wk ?_
  refine CX.ps (PS.andN (k := .u8) c.toNat 15 rfl hc (by decide) rfl rfl rfl) ?_
  refine wk ?_
  refine CX.ps (PS.shrN c.toNat 4 (by decide) rfl rfl rfl) ?_
  (apply CX.ps; (· apply PS.buildArr (out := [.int .u8 ((c.toNat &&& 15 : Nat) : Int), .int .u8 ((c.toNat / 2 ^ 4 : Nat) : Int)]); (· rfl); (· rfl); (· rfl)))
  refine wk ?_
  refine CC.loop (X := Nat × Nat) (fun s => [(14, .int .i64 (s.1 : Int)), (0, .int .u32 (s.2 : Int)), (5, .pointer (some ⟨t, 0, none⟩)), (13, .agg [.int .u8 ((c.toNat &&& 15 : Nat) : Int), .int .u8 ((c.toNat / 2 ^ 4 : Nat) : Int)].toArray)])
    (fun s => [bk t 258 fourC, exact x]) (fun s => s = (0, r) ∨ s = (1, nibM r (c.toNat &&& 15)) ∨ s = (2, intoM r c)) (fun s => 2 - s.1) (0, r) (.inl rfl) ⟨rfl, rfl, rfl, rfl, trivial⟩ (by exact selA) ?_
  have key : ∀ (s h : Nat), s < 2 ^ 32 → h < 16 → nibM s h = s / 2 ^ 4 ^^^ four ((s % 2 ^ 8 &&& 15) ^^^ h) ∧ (s % 2 ^ 8 &&& 15) ^^^ h < 16 := fun s h hs hh => by
    have e : s % 2 ^ 8 &&& 15 = s &&& 15 := by rw [and15, and15]; omega
    rw [e]
    refine ⟨by rw [nibM, Nat.shiftRight_eq_div_pow], ?_⟩
    exact Nat.xor_lt_two_pow (n := 4) (by rw [and15]; omega) hh
  rintro ⟨i, s⟩ (e | e | e) <;> (obtain ⟨rfl, h6⟩ := Prod.mk.inj e; have h6 := h6.symm; subst h6)
  · have hh : c.toNat &&& 15 < 16 := by first | omega | (have := c.toNat_lt; omega)
    obtain ⟨e1, e2⟩ := key r (c.toNat &&& 15) (by first | exact hr | exact nib_lt hr h1) hh
    have e3 := four_lt _ e2
    have hs8 : r % 2 ^ 8 < 256 := Nat.mod_lt _ (by decide)
    have hs : r < 2 ^ 32 := by first | exact hr | exact nib_lt hr h1
    dsimp only
    refine wk ?_
    refine CX.ps (PS.indexS (j := 0) rfl rfl rfl rfl (by decide) rfl) ?_
    refine wk ?_
    refine CX.ps (PS.shrN r 4 (by decide) rfl rfl rfl) ?_
    refine wk ?_
    refine CX.ps (PS.convM r (r % 2 ^ 8) rfl rfl rfl rfl) ?_
    refine CX.ps (PS.andN (k := .u8) (r % 2 ^ 8) 15 rfl hs8 (by decide) rfl rfl rfl) ?_
    refine wk ?_
    refine CX.ps (PS.xorN (k := .u8) (r % 2 ^ 8 &&& 15) (c.toNat &&& 15) rfl (Nat.lt_of_le_of_lt Nat.and_le_right (by decide)) (Nat.lt_trans hh (by decide)) rfl rfl rfl) ?_
    refine CX.ps (PS.indexArr (j := r % 2 ^ 8 &&& 15 ^^^ (c.toNat &&& 15)) rfl rfl rfl rfl e2) ?_
    refine CX.loadA _ (CellAt.pick (by first | exact pickA | exact updA) (fourC_at _ e2)) ?_
    refine CX.ps (PS.xorN (k := .u32) (r / 2 ^ 4) (four (r % 2 ^ 8 &&& 15 ^^^ (c.toNat &&& 15))) rfl (Nat.lt_of_le_of_lt (Nat.div_le_self _ _) hs) e3 rfl rfl rfl) ?_
    refine wk ?_
    rw [← e1]
    exact CQ.round (x := (0, r)) (0 + 1, nibM r (c.toNat &&& 15)) (.inr (.inl rfl)) (by dsimp only; omega) ⟨rfl, by rfl, rfl, rfl, trivial⟩ (by exact selA)
  · have hh : c.toNat / 2 ^ 4 < 16 := by first | omega | (have := c.toNat_lt; omega)
    obtain ⟨e1, e2⟩ := key (nibM r (c.toNat &&& 15)) (c.toNat / 2 ^ 4) (by first | exact hr | exact nib_lt hr h1) hh
    have e3 := four_lt _ e2
    have hs8 : nibM r (c.toNat &&& 15) % 2 ^ 8 < 256 := Nat.mod_lt _ (by decide)
    have hs : nibM r (c.toNat &&& 15) < 2 ^ 32 := by first | exact hr | exact nib_lt hr h1
    dsimp only
    refine wk ?_
    refine CX.ps (PS.indexS (j := 1) rfl rfl rfl rfl (by decide) rfl) ?_
    refine wk ?_
    refine CX.ps (PS.shrN (nibM r (c.toNat &&& 15)) 4 (by decide) rfl rfl rfl) ?_
    refine wk ?_
    refine CX.ps (PS.convM (nibM r (c.toNat &&& 15)) (nibM r (c.toNat &&& 15) % 2 ^ 8) rfl rfl rfl rfl) ?_
    refine CX.ps (PS.andN (k := .u8) (nibM r (c.toNat &&& 15) % 2 ^ 8) 15 rfl hs8 (by decide) rfl rfl rfl) ?_
    refine wk ?_
    refine CX.ps (PS.xorN (k := .u8) (nibM r (c.toNat &&& 15) % 2 ^ 8 &&& 15) (c.toNat / 2 ^ 4) rfl (Nat.lt_of_le_of_lt Nat.and_le_right (by decide)) (Nat.lt_trans hh (by decide)) rfl rfl rfl) ?_
    refine CX.ps (PS.indexArr (j := nibM r (c.toNat &&& 15) % 2 ^ 8 &&& 15 ^^^ (c.toNat / 2 ^ 4)) rfl rfl rfl rfl e2) ?_
    refine CX.loadA _ (CellAt.pick (by first | exact pickA | exact updA) (fourC_at _ e2)) ?_
    refine CX.ps (PS.xorN (k := .u32) (nibM r (c.toNat &&& 15) / 2 ^ 4) (four (nibM r (c.toNat &&& 15) % 2 ^ 8 &&& 15 ^^^ (c.toNat / 2 ^ 4))) rfl (Nat.lt_of_le_of_lt (Nat.div_le_self _ _) hs) e3 rfl rfl rfl) ?_
    refine wk ?_
    rw [← e1]
    exact CQ.round (x := (1, nibM r (c.toNat &&& 15))) (1 + 1, nibM (nibM r (c.toNat &&& 15)) (c.toNat / 2 ^ 4)) (.inr (.inr (by rw [into_nib, Nat.shiftRight_eq_div_pow]))) (by dsimp only; omega) ⟨rfl, by rfl, rfl, rfl, trivial⟩ (by exact selA)
  · dsimp only
    refine wk ?_
    ((apply CQ.end1; (· rfl); (· exact .tmp rfl)); (· exact ⟨rfl, rfl⟩); (· exact selA))
theorem more_c (s : Nat) (hs : s < 2 ^ 32) (B : Blk) (hB : B.length ≤ 9223372036854775807) (a : Option Addr) (cap : Nat) : Ctr Tryz.prog 197 [.int .u32 (s : Int), .slice a B.length cap] [] (fun x => rdx a B.length (cb B) x)
    (fun v M => v = .int .u32 ((restM (s ^^^ 4294967295) B ^^^ 4294967295 : Nat) : Int) ∧ M = []) := by
  have hs' : s ^^^ 4294967295 < 2 ^ 32 := Nat.xor_lt_two_pow hs (by decide)
  refine Ctr.intro Tryz.func197 rfl Tryz.ntmps197 rfl fun x w hp => ?_
  refine wk ?_
  refine CX.ps (PS.xorN (k := .u32) s 4294967295 rfl hs (by decide) rfl rfl rfl) ?_
  refine wk ?_
  refine CC.loop (X := Nat) (fun i => [(11, .int .i64 (i : Int)), (5, .int .u32 ((restM (s ^^^ 4294967295) (B.take i) : Nat) : Int)), (10, .int .i64 (B.length : Int)), (1, .slice a B.length cap)])
    (fun i => [exact x]) (fun i => i ≤ B.length) (fun i => B.length - i) 0 (Nat.zero_le _) ⟨rfl, rfl, rfl, rfl, trivial⟩ (by exact selA) ?_
  intro i hi
  by_cases h1 : i < B.length
  · obtain ⟨g, off, rfl⟩ := rdx_some hp (by omega)
    refine wk ?_
    (refine CX.indexA (i) ?_ ?_; (· exact h1))
    (refine CX.loadA _ (CellAt.rd (j := i) (by first | exact pickA | exact updA) hp rfl h1) ?_)
    refine wk ?_
    refine CX.callA (into_c (restM (s ^^^ 4294967295) (B.take i)) (rest_lt hs' _) B[i]) ?_
    rintro _ _ ⟨rfl, rfl⟩
    refine wk ?_
    have e : restM (s ^^^ 4294967295) (B.take (i + 1)) = intoM (restM (s ^^^ 4294967295) (B.take i)) B[i] := by rw [List.take_succ_eq_append_getElem h1, rest_append]; rfl
    exact CQ.round (i + 1) (by omega) (by omega) ⟨eqI (by omega), eqI (by rw [e]), rfl, rfl, trivial⟩ (by exact selA)
  · obtain rfl : i = B.length := by omega
    rw [List.take_length]
    refine wk ?_
    refine CX.ps (PS.xorN (k := .u32) (restM (s ^^^ 4294967295) B) 4294967295 rfl (rest_lt hs' _) (by decide) rfl rfl rfl) ?_
    refine wk ?_
    (apply CQ.end1; (· rfl); (· exact .tmp rfl))
    · exact ⟨rfl, rfl⟩
    · exact selA
theorem of_c (B : Blk) (hB : B.length ≤ 9223372036854775807) (a : Option Addr) (cap : Nat) : Ctr Tryz.prog 194 [.slice a B.length cap] [] (fun x => rdx a B.length (cb B) x) (fun v M => v = .int .u32 ((crcM B : Nat) : Int) ∧ M = []) := by
  refine Ctr.intro Tryz.func194 rfl Tryz.ntmps194 rfl fun x w hp => ?_
  refine wk ?_
  refine CX.callA (more_c 0 (by decide) B hB a cap) ?_ (hpre := by exact rdx_ex (by first | exact pickA | exact updA) hp)
  rintro _ _ ⟨rfl, rfl⟩
  refine wk ?_
  ((apply CQ.end1; (· rfl); (· exact .tmp rfl)); (· exact ⟨rfl, rfl⟩); (· exact selA))
end Go.Proofs.YtlckhaodecdbbaaGreatDoor
/-! Numbers as bytes and rests, the document's way (ref 01, 03), and what the statements share (ref 00). -/
namespace Go.Cx
theorem slE2 {a : Option Addr} {n m c d : Nat} (h : n = m) (k : c = d) : some (Value.slice a n c) = some (Value.slice a m d) := by rw [h, k]
theorem slE {a : Option Addr} {n m c : Nat} (h : n = m) : some (Value.slice a n c) = some (Value.slice a m c) := by rw [h]
theorem turned_eq {n : Nat} (h : n < 2 ^ 32) : 4294967295 - n = n ^^^ 4294967295 := by
  have h1 : (BitVec.ofNat 32 n ^^^ BitVec.allOnes 32).toNat = n ^^^ 4294967295 := by
    rw [BitVec.toNat_xor, BitVec.toNat_ofNat, BitVec.toNat_allOnes, Nat.mod_eq_of_lt h]
  rw [← h1, BitVec.xor_allOnes, BitVec.toNat_not, BitVec.toNat_ofNat, Nat.mod_eq_of_lt h]
theorem le_app (i n : Nat) : le i n ++ [UInt8.ofNat (n / 256 ^ i)] = le (i + 1) n := (le_snoc i n).symm
theorem bits_succ (k r : Nat) : bits (k + 1) r = bit1 (bits k r) := by rw [bits_add]; rfl
theorem div_step' (n i : Nat) : n / 256 ^ i / 256 = n / 256 ^ (i + 1) := by rw [Nat.div_div_eq_div_mul, Nat.pow_succ]
theorem bit1_even {r : Nat} (h : r % 2 = 0) : bit1 r = r / 2 := by simp [bit1, Nat.testBit_zero, h, Nat.shiftRight_eq_div_pow]
theorem bit1_odd {r : Nat} (h : r % 2 = 1) : bit1 r = r / 2 ^^^ poly := by simp [bit1, Nat.testBit_zero, h, Nat.shiftRight_eq_div_pow]
theorem pow_lt64 {i k : Nat} (hi : i < k) (hk : k ≤ 8) : 256 ^ i ≤ 72057594037927936 := Nat.le_trans (Nat.pow_le_pow_right (by omega) (show i ≤ 7 by omega)) (by decide)
theorem rget_step {acc p b : Nat} {i k : Nat} (hi : i < k) (hk : k ≤ 8) (hp : p = 256 ^ i) (hb : b < 256) (ha : acc < 256 ^ i) : (acc + p * b % 2 ^ IntKind.u64.bits) % 2 ^ IntKind.u64.bits = acc + 256 ^ i * b := by
  have h1 := pow_lt64 hi hk
  have h2 : 256 ^ i * b ≤ 256 ^ i * 255 := Nat.mul_le_mul_left _ (by omega)
  subst hp
  simp only [IntKind.bits]
  rw [Nat.mod_eq_of_lt (a := 256 ^ i * b) (by omega), Nat.mod_eq_of_lt (by omega)]
end Go.Cx
namespace Go.Proofs.YtlckhaodecdbbaaGreatDoor
open Go.Cx
attribute [local irreducible] Go.Cx.CX Go.Cx.CC Go.Cx.CQ Go.Cx.PS Go.Cx.Ctr Go.Cx.CH
set_option maxRecDepth 10000
theorem rsize_c (k : Int) : Ctr Tryz.prog 142 [.int .i64 k] [] (fun _ => True) (fun v M => v = .bool (decide (okSize k)) ∧ M = []) := by
  refine Ctr.intro Tryz.func142 rfl Tryz.ntmps142 rfl fun x w hp => ?_
  by_cases h1 : k = 1
  · refine wk ?_
    ((apply CQ.end1; (· rfl); (· exact .tmp rfl)); (· exact ⟨by simp [show okSize k by unfold okSize; omega], rfl⟩); (· exact selA))
  by_cases h2 : k = 2
  · refine wk ?_
    ((apply CQ.end1; (· rfl); (· exact .tmp rfl)); (· exact ⟨by simp [show okSize k by unfold okSize; omega], rfl⟩); (· exact selA))
  by_cases h3 : k = 4
  · refine wk ?_
    ((apply CQ.end1; (· rfl); (· exact .tmp rfl)); (· exact ⟨by simp [show okSize k by unfold okSize; omega], rfl⟩); (· exact selA))
  by_cases h4 : k = 8
  · refine wk ?_
    ((apply CQ.end1; (· rfl); (· exact .tmp rfl)); (· exact ⟨by simp [show okSize k by unfold okSize; omega], rfl⟩); (· exact selA))
  refine wk ?_
  ((apply CQ.end1; (· rfl); (· exact .tmp rfl)); (· exact ⟨by simp [show ¬ okSize k by unfold okSize; omega], rfl⟩); (· exact selA))
theorem rput_c (n k : Nat) (hk : k = 1 ∨ k = 2 ∨ k = 4 ∨ k = 8) (hn : n < 256 ^ k) : Ctr Tryz.prog 99 [.int .u64 (n : Int), .int .i64 (k : Int)] [] (fun _ => True)
    (fun v M => ∃ b c, v = .tuple #[.slice (some ⟨b, 0, none⟩) k c, .int .i64 0] ∧ M = [own 5 1 (some ⟨b, 0, none⟩) k c (cb (le k n))]) := by
  have hp64 := pow_size hk
  have hd : decide (okSize (k : Int)) = true := decide_eq_true (by unfold okSize; omega)
  refine Ctr.intro Tryz.func99 rfl Tryz.ntmps99 rfl fun x w hp => ?_
  refine wk ?_
  (have cc := rsize_c (k : Int); simp only [hd] at cc; refine CX.callA cc ?_; clear cc; rintro _ _ ⟨rfl, rfl⟩)
  refine wk ?_
  refine CC.ownNil 5 1 ?_
  refine CC.loop (X := Nat × Option Addr × Nat) (fun s => [(6, .slice s.2.1 s.1 s.2.2), (1, .int .i64 (k : Int)), (0, .int .u64 ((n / 256 ^ s.1 : Nat) : Int))])
    (fun s => [own 5 1 s.2.1 s.1 s.2.2 (cb (le s.1 n)), exact x]) (fun s => s.1 ≤ k) (fun s => k - s.1) (0, none, 0) (Nat.zero_le _) ⟨rfl, rfl, eqI (by simp), trivial⟩ (by exact selA) ?_
  rintro ⟨i, a, c⟩ hi
  dsimp only at hi ⊢
  have hle : n / 256 ^ i ≤ n := Nat.div_le_self _ _
  by_cases h1 : i < k
  · refine wk ?_
    refine CX.ps (PS.remN (k := .u64) (n / 256 ^ i) 256 (by decide) rfl rfl rfl) ?_
    refine CX.ps (PS.convM (n / 256 ^ i % 256) (UInt8.ofNat (n / 256 ^ i)).toNat rfl (by simp [IntKind.bits]) rfl rfl) ?_
    (refine CX.appB (UInt8.ofNat (n / 256 ^ i)) ?_ ?_ ?_; (· omega); (· rfl); intro bq a' c')
    rw [le_app]
    refine wk ?_
    refine CX.ps (PS.quoN (k := .u64) (n / 256 ^ i) 256 (by decide) rfl (by simp only [IntKind.bits]; omega) rfl rfl rfl) ?_
    rw [div_step']
    refine wk ?_
    exact CQ.round (x := (i, a, c)) (i + 1, a', c') (by dsimp only; omega) (by dsimp only; omega) ⟨rfl, rfl, rfl, trivial⟩ (by exact selA)
  · obtain rfl : i = k := by omega
    have e : ((n / 256 ^ i : Nat) : Int) = 0 := by rw [Nat.div_eq_of_lt hn]; rfl
    rw [e]
    refine CC.fact (p := ∃ b, a = some ⟨b, 0, none⟩) (fun h hs => ?_) ?_
    · rcases own_some (Sep.head hs) with ⟨_, h0, _⟩ | h0
      · omega
      · exact h0
    rintro ⟨b, rfl⟩
    refine wk ?_
    (apply CQ.end2; (· rfl); (· exact .tmp rfl); (· exact .tmp rfl))
    · exact ⟨b, c, rfl, rfl⟩
    · exact selA
theorem rget_c (B : Blk) (a : Option Addr) (cap : Nat) (at_ k : Int) (hB : B.length ≤ 4611686018427387904) (ha : -9223372036854775808 ≤ at_ ∧ at_ ≤ 9223372036854775807) (hk : -9223372036854775808 ≤ k ∧ k ≤ 9223372036854775807) :
    Ctr Tryz.prog 151 [.slice a B.length cap, .int .i64 at_, .int .i64 k] [] (fun x => rdx a B.length (cb B) x) (fun v M => v = .tuple #[.int .u64 ((getN B at_ k).1 : Int), .int .i64 (getN B at_ k).2] ∧ M = []) := by
  refine Ctr.intro Tryz.func151 rfl Tryz.ntmps151 rfl fun x w hp => ?_
  refine wk ?_
  by_cases hs : okSize k
  · have hs' : k = 1 ∨ k = 2 ∨ k = 4 ∨ k = 8 := hs
    (have cc := rsize_c k; simp only [decide_eq_true hs] at cc; refine CX.callA cc ?_; clear cc; rintro _ _ ⟨rfl, rfl⟩)
    by_cases h1 : at_ < 0
    · have e : getN B at_ k = (0, 2) := by unfold getN; rw [if_pos (.inr (.inl h1))]
      refine wk ?_
      rw [e]
      (apply CQ.end2; (· rfl); (· exact .tmp rfl); (· exact .tmp rfl))
      · exact ⟨rfl, rfl⟩
      · exact selA
    by_cases h2 : (B.length : Int) < at_
    · have e : getN B at_ k = (0, 2) := by unfold getN; rw [if_pos (.inr (.inr h2))]
      refine wk ?_
      rw [e]
      (apply CQ.end2; (· rfl); (· exact .tmp rfl); (· exact .tmp rfl))
      · exact ⟨rfl, rfl⟩
      · exact selA
    by_cases h3 : (B.length : Int) - at_ < k
    · have e : getN B at_ k = (0, 4) := by unfold getN; rw [if_neg (by rintro (h | h | h) <;> first | exact h hs | omega), if_pos h3]
      refine wk ?_
      rw [e]
      (apply CQ.end2; (· rfl); (· exact .tmp rfl); (· exact .tmp rfl))
      · exact ⟨rfl, rfl⟩
      · exact selA
    obtain ⟨p, rfl⟩ : ∃ p : Nat, at_ = p := ⟨at_.toNat, by omega⟩
    obtain ⟨q, rfl⟩ : ∃ q : Nat, k = q := ⟨k.toNat, by omega⟩
    have hq : q = 1 ∨ q = 2 ∨ q = 4 ∨ q = 8 := by omega
    have e : getN B p q = (ofLe ((B.drop p).take q), 0) := by unfold getN; rw [if_neg (by rintro (h | h | h) <;> first | exact h hs | omega), if_neg h3]; rfl
    rw [e]
    obtain ⟨g, off, rfl⟩ := rdx_some hp (by omega)
    refine wk ?_
    refine CC.loop (X := Nat × Nat) (fun s => [(10, .int .i64 (s.1 : Int)), (8, .int .u64 ((ofLe ((B.drop p).take s.1) : Nat) : Int)), (9, .int .u64 (s.2 : Int)), (0, .slice (some ⟨g, off, none⟩) B.length cap), (1, .int .i64 (p : Int)), (2, .int .i64 (q : Int))])
      (fun i => [exact x]) (fun s => s.1 ≤ q ∧ (s.1 < q → s.2 = 256 ^ s.1)) (fun s => q - s.1) (0, 1) ⟨Nat.zero_le _, fun _ => rfl⟩ ⟨rfl, eqI (by simp [ofLe]), rfl, rfl, rfl, rfl, trivial⟩ (by exact selA) ?_
    rintro ⟨i, m⟩ ⟨hi, hm⟩
    dsimp only at hi hm ⊢
    by_cases h5 : i < q
    · have h6 : p + i < B.length := by omega
      have hm := hm h5
      have hlt := ofLe_lt ((B.drop p).take i)
      have hl : ((B.drop p).take i).length = i := by simp; omega
      rw [hl] at hlt
      have hb := (B[p + i]'h6).toNat_lt
      have e2 : ofLe ((B.drop p).take (i + 1)) = ofLe ((B.drop p).take i) + 256 ^ i * (B[p + i]'h6).toNat := by
        rw [List.take_succ_eq_append_getElem (by simp; omega), ofLe_append, hl]; simp [ofLe]
      have e3 := rget_step h5 (by omega) hm hb hlt
      generalize ofLe ((B.drop p).take i) = acc at hlt e2 e3
      refine wk ?_
      (refine CX.indexA (p + i) ?_ ?_; (· exact h6))
      (refine CX.loadA _ (CellAt.rd (j := p + i) (by first | exact pickA | exact updA) hp rfl h6) ?_)
      refine wk ?_
      refine CX.ps (PS.mulM (k := .u64) m (B[p + i]'h6).toNat rfl rfl rfl rfl) ?_
      refine CX.ps (PS.addM (k := .u64) acc (m * (B[p + i]'h6).toNat % 2 ^ IntKind.u64.bits) rfl rfl rfl rfl) ?_
      rw [e3, ← e2]
      refine wk ?_
      refine CX.ps (PS.mulM (k := .u64) 256 m rfl rfl rfl rfl) ?_
      refine wk ?_
      refine CQ.round (x := (i, m)) (i + 1, 256 * m % 2 ^ IntKind.u64.bits) ⟨by dsimp only; omega, fun h7 => ?_⟩ (by dsimp only; omega) ⟨eqI (by dsimp only; omega), rfl, rfl, rfl, rfl, rfl, trivial⟩ (by exact selA)
      dsimp only at h7 ⊢
      have := pow_lt64 h7 (by omega)
      rw [Nat.pow_succ] at this ⊢
      simp only [IntKind.bits]
      rw [hm, Nat.mod_eq_of_lt (by omega)]; omega
    · obtain rfl : i = q := by omega
      refine wk ?_
      (apply CQ.end2; (· rfl); (· exact .tmp rfl); (· exact .tmp rfl))
      · exact ⟨rfl, rfl⟩
      · exact selA
  · (have cc := rsize_c k; simp only [decide_eq_false hs] at cc; refine CX.callA cc ?_; clear cc; rintro _ _ ⟨rfl, rfl⟩)
    have e : getN B at_ k = (0, 2) := by unfold getN; rw [if_pos (.inl hs)]
    refine wk ?_
    rw [e]
    (apply CQ.end2; (· rfl); (· exact .tmp rfl); (· exact .tmp rfl))
    · exact ⟨rfl, rfl⟩
    · exact selA
theorem rbit_c (r : Nat) (hr : r < 2 ^ 32) : Ctr Tryz.prog 202 [.int .u32 (r : Int)] [] (fun _ => True) (fun v M => v = .int .u32 ((bit1 r : Nat) : Int) ∧ M = []) := by
  have e : r &&& 1 = r % 2 := Nat.and_one_is_mod r
  refine Ctr.intro Tryz.func202 rfl Tryz.ntmps202 rfl fun x w hp => ?_
  refine wk ?_
  refine CX.ps (PS.andN (k := .u32) r 1 rfl hr (by decide) rfl rfl rfl) ?_
  rw [e]
  by_cases h1 : r % 2 = 0
  · refine wk ?_
    refine CX.ps (PS.shrN r 1 (by decide) rfl rfl rfl) ?_
    refine wk ?_
    ((apply CQ.end1; (· rfl); (· exact .tmp rfl)); (· exact ⟨by rw [bit1_even h1], rfl⟩); (· exact selA))
  · refine wk ?_
    refine CX.ps (PS.shrN r 1 (by decide) rfl rfl rfl) ?_
    refine CX.ps (PS.xorN (k := .u32) (r / 2 ^ 1) 2197175160 rfl (Nat.lt_of_le_of_lt (Nat.div_le_self _ _) hr) (by decide) rfl rfl rfl) ?_
    refine wk ?_
    ((apply CQ.end1; (· rfl); (· exact .tmp rfl)); (· exact ⟨by rw [bit1_odd (by omega)]; rfl, rfl⟩); (· exact selA))
theorem ron_c (r : Nat) (hr : r < 2 ^ 32) : Ctr Tryz.prog 200 [.int .u32 (r : Int), .int .i64 1] [] (fun _ => True) (fun v M => v = .int .u32 ((Cx.bits 8 r : Nat) : Int) ∧ M = []) := by
  refine Ctr.intro Tryz.func200 rfl Tryz.ntmps200 rfl fun x w hp => ?_
  refine wk ?_
  refine CC.loop (X := Nat × Nat) (fun s => [(5, .int .i64 (s.1 : Int)), (0, .int .u32 (s.2 : Int)), (1, .int .i64 1)])
    (fun s => [exact x]) (fun s => s = (0, r) ∨ s = (1, Cx.bits 8 r)) (fun s => 1 - s.1) (0, r) (.inl rfl) ⟨rfl, rfl, rfl, trivial⟩ (by exact selA) ?_
  rintro ⟨i, s⟩ (e | e) <;> (obtain ⟨rfl, h6⟩ := Prod.mk.inj e; have h6 := h6.symm; subst h6)
  · refine wk ?_
    refine CC.loop (X := Nat) (fun k => [(6, .int .i64 (k : Int)), (0, .int .u32 ((Cx.bits k r : Nat) : Int)), (1, .int .i64 1), (5, .int .i64 0)])
      (fun s => [exact x]) (fun k => k ≤ 8) (fun k => 8 - k) 0 (by omega) ⟨rfl, rfl, rfl, rfl, trivial⟩ (by exact selA) ?_
    intro k hk
    by_cases h1 : k < 8
    · refine wk ?_
      refine CX.callA (rbit_c (Cx.bits k r) (bits_lt k hr)) ?_
      rintro _ _ ⟨rfl, rfl⟩
      rw [← bits_succ]
      refine wk ?_
      exact CQ.round (k + 1) (by omega) (by omega) ⟨eqI (by omega), rfl, rfl, rfl, trivial⟩ (by exact selA)
    · obtain rfl : k = 8 := by omega
      refine wk ?_
      exact CQ.round (x := (0, r)) (1, Cx.bits 8 r) (.inr rfl) (by dsimp only; omega) ⟨rfl, rfl, rfl, trivial⟩ (by exact selA)
  · refine wk ?_
    ((apply CQ.end1; (· rfl); (· exact .tmp rfl)); (· exact ⟨rfl, rfl⟩); (· exact selA))
theorem rinto_c (r : Nat) (hr : r < 2 ^ 32) (c : UInt8) : Ctr Tryz.prog 198 [.int .u32 (r : Int), .int .u8 (c.toNat : Int)] [] (fun _ => True) (fun v M => v = .int .u32 ((intoM r c : Nat) : Int) ∧ M = []) := by
  have hc := c.toNat_lt
  refine Ctr.intro Tryz.func198 rfl Tryz.ntmps198 rfl fun x w hp => ?_
  refine wk ?_
  refine CX.ps (PS.xorN (k := .u32) r c.toNat rfl hr (by simp only [IntKind.bits]; omega) rfl rfl rfl) ?_
  refine CX.callA (ron_c (r ^^^ c.toNat) (Nat.xor_lt_two_pow hr (by omega))) ?_
  rintro _ _ ⟨rfl, rfl⟩
  refine wk ?_
  ((apply CQ.end1; (· rfl); (· exact .tmp rfl)); (· exact ⟨rfl, rfl⟩); (· exact selA))
theorem rturned_c (r : Nat) (hr : r < 2 ^ 32) : Ctr Tryz.prog 196 [.int .u32 (r : Int)] [] (fun _ => True) (fun v M => v = .int .u32 ((r ^^^ 4294967295 : Nat) : Int) ∧ M = []) := by
  have h := turned_eq hr
  refine Ctr.intro Tryz.func196 rfl Tryz.ntmps196 rfl fun x w hp => ?_
  refine wk ?_
  ((apply CQ.end1; (· rfl); (· exact .tmp rfl)); (· exact ⟨by congr 1; omega, rfl⟩); (· exact selA))
theorem rmore_c (s : Nat) (hs : s < 2 ^ 32) (B : Blk) (hB : B.length ≤ 9223372036854775807) (a : Option Addr) (cap : Nat) (hcap : B.length ≤ cap) : Ctr Tryz.prog 195 [.int .u32 (s : Int), .slice a B.length cap] [] (fun x => rdx a B.length (cb B) x)
    (fun v M => v = .int .u32 ((restM (s ^^^ 4294967295) B ^^^ 4294967295 : Nat) : Int) ∧ M = []) := by
  have hs' : s ^^^ 4294967295 < 2 ^ 32 := Nat.xor_lt_two_pow hs (by decide)
  refine Ctr.intro Tryz.func195 rfl Tryz.ntmps195 rfl fun x w hp => ?_
  refine wk ?_
  refine CX.callA (rturned_c s hs) ?_
  rintro _ _ ⟨rfl, rfl⟩
  refine wk ?_
  refine CC.loop (X := Nat × Option Addr × Nat) (fun i => [(5, .int .u32 ((restM (s ^^^ 4294967295) (B.take i.1) : Nat) : Int)), (1, .slice i.2.1 (B.length - i.1) i.2.2)])
    (fun i => [exact x]) (fun i => i.1 ≤ B.length ∧ B.length - i.1 ≤ i.2.2 ∧ rdx i.2.1 (B.length - i.1) (cb (B.drop i.1)) x) (fun i => B.length - i.1) (0, a, cap) ⟨Nat.zero_le _, hcap, hp⟩ ⟨rfl, rfl, trivial⟩ (by exact selA) ?_
  rintro ⟨i, a, cap⟩ ⟨hi, hc, hq⟩
  dsimp only at hi hc hq ⊢
  by_cases h1 : i < B.length
  · have hl : (B.drop i).length = B.length - i := by simp
    obtain ⟨g, off, rfl⟩ := rdx_some hq (by omega)
    have h0 : 0 < (B.drop i).length := by omega
    have hg : (B.drop i)[0] = B[i] := by simp
    refine wk ?_
    (refine CX.indexA (0) ?_ ?_; (· omega))
    (refine CX.loadA _ (CellAt.rd (j := 0) (by first | exact pickA | exact updA) hq hl.symm h0) ?_)
    rw [hg]
    refine CX.callA (rinto_c (restM (s ^^^ 4294967295) (B.take i)) (rest_lt hs' _) B[i]) ?_
    rintro _ _ ⟨rfl, rfl⟩
    refine wk ?_
    refine CX.ps (PS.sliceLo (l := 1) rfl rfl rfl rfl (by omega) (by omega)) ?_
    refine wk ?_
    have e : restM (s ^^^ 4294967295) (B.take (i + 1)) = intoM (restM (s ^^^ 4294967295) (B.take i)) B[i] := by rw [List.take_succ_eq_append_getElem h1, rest_append]; rfl
    have hq2 : rdx (some ⟨g, if cap = 1 then off else off + 1 * 1, none⟩) (B.length - (i + 1)) (cb (B.drop (i + 1))) x := by
      by_cases h2 : cap = 1
      · exact .inl (by omega)
      · rw [if_neg h2]
        have := rdx_part rfl hq hl.symm 1 ((B.drop i).length - 1) (by omega)
        rw [List.drop_drop] at this
        have e1 : (List.drop (i + 1) B).take ((B.drop i).length - 1) = B.drop (i + 1) := List.take_of_length_le (by simp; omega)
        have e2 : B.length - (i + 1) = (B.drop i).length - 1 := by omega
        rw [e1] at this
        rw [e2]; exact this
    rw [← e]
    exact CQ.round (x := (i, some ⟨g, off, none⟩, cap)) (i + 1, some ⟨g, if cap = 1 then off else off + 1 * 1, none⟩, cap - 1) ⟨by dsimp only; omega, by dsimp only; omega, hq2⟩ (by dsimp only; omega) ⟨rfl, slE (by omega), trivial⟩ (by exact selA)
  · obtain rfl : i = B.length := by omega
    rw [List.take_length]
    refine wk ?_
    refine CX.callA (rturned_c (restM (s ^^^ 4294967295) B) (rest_lt hs' _)) ?_
    rintro _ _ ⟨rfl, rfl⟩
    refine wk ?_
    ((apply CQ.end1; (· rfl); (· exact .tmp rfl)); (· exact ⟨rfl, rfl⟩); (· exact selA))
theorem rof_c (B : Blk) (hB : B.length ≤ 9223372036854775807) (a : Option Addr) (cap : Nat) (hcap : B.length ≤ cap) : Ctr Tryz.prog 190 [.slice a B.length cap] [] (fun x => rdx a B.length (cb B) x) (fun v M => v = .int .u32 ((crcM B : Nat) : Int) ∧ M = []) := by
  refine Ctr.intro Tryz.func190 rfl Tryz.ntmps190 rfl fun x w hp => ?_
  refine wk ?_
  refine CX.callA (rturned_c 4294967295 (by decide)) ?_
  rintro _ _ ⟨rfl, rfl⟩
  refine wk ?_
  refine CX.callA (rmore_c 0 (by decide) B hB a cap hcap) ?_ (hpre := by exact rdx_ex (by first | exact pickA | exact updA) hp)
  rintro _ _ ⟨rfl, rfl⟩
  refine wk ?_
  ((apply CQ.end1; (· rfl); (· exact .tmp rfl)); (· exact ⟨rfl, rfl⟩); (· exact selA))
theorem same_c (A B : Blk) (a b : Option Addr) (ca cb' : Nat) : Ctr Tryz.prog 31 [.slice a A.length ca, .slice b B.length cb'] [] (fun x => rdx a A.length (cb A) x ∧ rdx b B.length (cb B) x) (fun v M => v = .bool (decide (A = B)) ∧ M = []) := by
  refine Ctr.intro Tryz.func31 rfl Tryz.ntmps31 rfl fun x w hp => ?_
  refine wk ?_
  refine CX.ps (PS.toStr rfl rfl rfl (rdx_ex (by first | exact pickA | exact updA) hp.1)) ?_
  refine wk ?_
  refine CX.ps (PS.toStr rfl rfl rfl (rdx_ex (by first | exact pickA | exact updA) hp.2)) ?_
  refine CX.ps (PS.eqlStr rfl rfl rfl) ?_
  refine wk ?_
  ((apply CQ.end1; (· rfl); (· exact .tmp rfl)); (· exact ⟨rfl, rfl⟩); (· exact selA))
end Go.Proofs.YtlckhaodecdbbaaGreatDoor
/-! Batches (batch.Put), in the program. -/
namespace Go.Cx
theorem one_rw (l : List RwV) : ∀ u ∈ rows RwV.cells l, u.oneCell' = true := fun u hu => by
  simp only [rows, List.mem_flatten, List.mem_map] at hu
  obtain ⟨_, ⟨r, _, rfl⟩, hu⟩ := hu
  simp only [RwV.cells, List.mem_cons, List.not_mem_nil, or_false] at hu
  rcases hu with rfl | rfl <;> rfl
theorem one_ch (l : List ChV) : ∀ u ∈ rows ChV.cells l, u.oneCell' = true := fun u hu => by
  simp only [rows, List.mem_flatten, List.mem_map] at hu
  obtain ⟨_, ⟨r, _, rfl⟩, hu⟩ := hu
  simp only [ChV.cells, List.mem_cons, List.not_mem_nil, or_false] at hu
  rcases hu with rfl | rfl | rfl <;> rfl
/-- What is put of the first changes. -/
def preB (n : Nat) (l : List ChV) : Blk := le 4 n ++ ((l.map ChV.m).map chB).flatten
theorem preB_nil (n : Nat) : preB n [] = le 4 n := by simp [preB]
theorem preB_snoc (n : Nat) (l : List ChV) (r : ChV) : preB n (l ++ [r]) = preB n l ++ chB r.m := by simp [preB]
theorem preB_all (l : List ChV) : preB l.length l = putB (l.map ChV.m) := by simp [preB, putB]
theorem preB_take {n i : Nat} {l : List ChV} (hi : i < l.length) : preB n (l.take (i + 1)) = preB n (l.take i) ++ chB (l[i]).m := by
  rw [List.take_succ_eq_append_getElem hi, preB_snoc]
theorem preB_le (n : Nat) (l : List ChV) (i : Nat) : (preB n (l.take i)).length ≤ (preB n l).length := by
  conv => rhs; rw [← List.take_append_drop i l]
  simp only [preB, List.map_append, List.flatten_append, List.length_append]
  omega
theorem chB_gone {r : ChV} (h : r.gone = true) : chB r.m = rowB r.key ++ [1] := by unfold chB ChV.m; simp [h]
theorem chB_val {r : ChV} (h : r.gone = false) : chB r.m = rowB r.key ++ ([0] ++ rowB r.s.b) := by unfold chB ChV.m; simp [h]
theorem rowB_len (b : Blk) : (rowB b).length = 4 + b.length := by simp [rowB]
end Go.Cx
namespace Go.Proofs.YtlckhaodecdbbaaGreatDoor
open Go.Cx
attribute [local irreducible] Go.Cx.CX Go.Cx.CC Go.Cx.CQ Go.Cx.PS Go.Cx.Ctr Go.Cx.CH
set_option maxRecDepth 10000
def BatchP (e : TypeId) (l : List ChV) (v : Value) (M : List Assn) : Prop :=
  (MayC (l.map ChV.m) → ∃ b c, v = .tuple #[.slice (some ⟨b, 0, none⟩) (putB (l.map ChV.m)).length c, .int .i64 0] ∧ M = [own e 1 (some ⟨b, 0, none⟩) (putB (l.map ChV.m)).length c (cb (putB (l.map ChV.m)))]) ∧
  (¬ MayC (l.map ChV.m) → v = .tuple #[.slice none 0 0, .int .i64 2] ∧ M = [])
theorem bput_c (l : List ChV) (hl : l.length ≤ 1073741824) (hb0 : MayC (l.map ChV.m) → (putB (l.map ChV.m)).length ≤ 70368744177664) (a : Option Addr) (cap : Nat) : Ctr Tryz.prog 85 [.slice a l.length cap] [] (fun x => chAt a l x) (BatchP 5 l) := by
  unfold BatchP
  refine Ctr.intro Tryz.func85 rfl Tryz.ntmps85 rfl fun x w hp => ?_
  refine wk ?_
  refine CX.callA (mayC_c l (by omega) a cap) ?_ (hpre := by exact ch_ex (by first | exact pickA | exact updA) hp)
  by_cases hm : MayC (l.map ChV.m)
  · have hb := hb0 hm
    rw [decide_eq_true hm]
    rintro _ _ ⟨rfl, rfl⟩
    refine wk ?_
    refine CX.callA (nput_c l.length 4 (by omega) (by omega)) ?_
    rintro _ _ ⟨b0, rfl, rfl⟩
    refine wk ?_
    refine CC.loop (X := Nat × Nat × Nat) (fun s => [(20, .int .i64 (s.1 : Int)), (19, .int .i64 (l.length : Int)), (18, .slice a l.length cap), (4, .slice (some ⟨s.2.1, 0, none⟩) (preB l.length (l.take s.1)).length s.2.2), (5, .int .i64 0)])
      (fun s => [own 5 1 (some ⟨s.2.1, 0, none⟩) (preB l.length (l.take s.1)).length s.2.2 (cb (preB l.length (l.take s.1))), exact x]) (fun s => s.1 ≤ l.length) (fun s => l.length - s.1) (0, b0, 4) (Nat.zero_le _) ⟨rfl, rfl, rfl, slE (by simp [preB]), rfl, trivial⟩ (by simp only [List.take_zero, preB_nil, length_le]; exact selA) ?_
    rintro ⟨i, b, c⟩ hi
    dsimp only at hi ⊢
    have hbl := preB_le l.length l (i + 1)
    rw [preB_all] at hbl
    by_cases h1 : i < l.length
    · obtain ⟨g, off, rfl⟩ := chAt_some hp (by omega)
      have hr := hp.2 l[i] (List.getElem_mem h1)
      have hok := hm.2 (l[i]).m (List.mem_map_of_mem (List.getElem_mem h1))
      have hk16 : (l[i]).key.length ≤ 16 := hok.k2
      have hvm : (l[i]).s.b.length ≤ 1048576 := hok.v
      have hT := preB_take (n := l.length) h1
      have hTl := congrArg List.length hT
      rw [List.length_append] at hTl
      generalize hX : preB l.length (l.take i) = X at *
      generalize hY : preB l.length (l.take (i + 1)) = Y at *
      generalize hlr : l[i] = r at *
      obtain ⟨k, sl, gn⟩ := r
      dsimp only at hk16 hvm hr
      have hnk : (some (⟨0, 0, none⟩ : Addr) : Option Addr) = none → k.length = 0 ∧ 0 = 0 := fun h => by cases h
      cases gn with
      | true =>
        have hc := chB_gone (r := ⟨k, sl, true⟩) rfl
        dsimp only at hc
        rw [hc] at hT hTl
        simp only [List.length_append, rowB_len, List.length_singleton] at hTl
        refine wk ?_
        (refine CX.indexA (i) ?_ ?_; (· exact h1))
        (apply CX.ps; (· apply PS.loadG (vs := [sv k, .slice sl.a sl.b.length sl.c, .bool true]); (· rfl); (· rfl); (· exact hp.cellsE h1 hlr (by first | exact pickA | exact updA)); (· rfl)))
        refine CX.allocZ [sv [], .slice none 0 0, .bool false] ?_ (hv := rfl)
        intro b7
        (refine CX.storeB (vs := [sv k, .slice sl.a sl.b.length sl.c, .bool true]) ?_ ?_ ?_ ?_; (· rfl); (· rfl); (· exact one_all rfl))
        refine wk ?_
        refine CX.strBytes ?_
        intro q cq hcq
        refine CX.callA (row_c k (by omega) (some ⟨q, 0, none⟩) cq (fun h => by cases h)) ?_ (hpre := by exact rdx_rd (by first | exact pickA | exact updA))
        rintro _ _ ⟨br, cr, rfl, rfl⟩
        refine CX.append (m := 4 + k.length) (news := cb (rowB k)) rfl rfl rfl (by first | exact pickA | exact updA) (rdS_of (rdx_own (e := 5) (by first | exact pickA | exact updA) (by simp [rowB_len])) (by simp [rowB_len])) (by omega) (fun h => by cases h) ?_
        intro a2 c2
        rw [← cb_append]
        refine wk ?_
        (refine CX.appB (1) ?_ ?_ ?_; (· omega); (· rfl); intro bq a3 c3)
        have e : X ++ rowB k ++ [1] = Y := by rw [hT, List.append_assoc]
        rw [e]
        refine CX.fact (own_fact (e := 5) (by first | exact pickA | exact updA) (by omega)) ?_
        rintro ⟨hc3, q3, rfl⟩
        refine wk ?_
        refine CQ.round (x := (i, b, c)) (i + 1, q3, c3) (by dsimp only; omega) (by dsimp only; omega) ⟨eqI (by simp), rfl, rfl, slE (by simp only [hY]; omega), rfl, trivial⟩ (by simp only [hY]; rw [show X.length + (4 + k.length) + 1 = Y.length by omega]; exact selA)
      | false =>
        have hc := chB_val (r := ⟨k, sl, false⟩) rfl
        dsimp only at hc
        rw [hc] at hT hTl
        simp only [List.length_append, rowB_len, List.length_singleton] at hTl
        refine wk ?_
        (refine CX.indexA (i) ?_ ?_; (· exact h1))
        (apply CX.ps; (· apply PS.loadG (vs := [sv k, .slice sl.a sl.b.length sl.c, .bool false]); (· rfl); (· rfl); (· exact hp.cellsE h1 hlr (by first | exact pickA | exact updA)); (· rfl)))
        refine CX.allocZ [sv [], .slice none 0 0, .bool false] ?_ (hv := rfl)
        intro b7
        (refine CX.storeB (vs := [sv k, .slice sl.a sl.b.length sl.c, .bool false]) ?_ ?_ ?_ ?_; (· rfl); (· rfl); (· exact one_all rfl))
        refine wk ?_
        refine CX.strBytes ?_
        intro q cq hcq
        refine CX.callA (row_c k (by omega) (some ⟨q, 0, none⟩) cq (fun h => by cases h)) ?_ (hpre := by exact rdx_rd (by first | exact pickA | exact updA))
        rintro _ _ ⟨br, cr, rfl, rfl⟩
        refine CX.append (m := 4 + k.length) (news := cb (rowB k)) rfl rfl rfl (by first | exact pickA | exact updA) (rdS_of (rdx_own (e := 5) (by first | exact pickA | exact updA) (by simp [rowB_len])) (by simp [rowB_len])) (by omega) (fun h => by cases h) ?_
        intro a2 c2
        rw [← cb_append]
        refine wk ?_
        refine CC.draw [(0, 0), (3, 0), (4, 1), (1, 2), (2, 2), (5, 3), (6, 2), (7, 0)] mixed rfl (by kernel_rfl) (by kernel_rfl) [bk b7 68 [sv k, .slice sl.a sl.b.length sl.c, .bool false]] ?_
        refine hwk ?_
        refine CH.chain rfl fun K hK => ?_
        refine CX.buildSl (parts := [(0, _)]) (vs := [(0, .int .u8 0)]) (out := [.int .u8 0]) rfl rfl (by decide) (by simp [fillL, Value.cells, setL]) fun bq => ?_
        (refine CX.nil ?_; refine CQ.thenK ?_; apply hK; (· exact selA); clear hK K)
        refine CH.chain rfl fun K hK => ?_
        refine CX.append (m := 1) (news := [.int .u8 0]) rfl rfl rfl (by first | exact pickA | exact updA) (RdS.pick (b := bq) (o := 0) (by first | exact pickA | exact updA) rfl (by simp [Value.oneCell']) rfl) (by omega) (fun h => by cases h) ?_
        intro a3 c3
        (refine CX.nil ?_; refine CQ.thenK ?_; apply hK; (· exact selA); clear hK K)
        refine CH.tail rfl rfl fun K hK => ?_
        refine CX.callA (row_c sl.b (by omega) sl.a sl.c (fun h => ⟨by rw [(hr.nil h).1]; rfl, (hr.nil h).2⟩)) ?_ (hpre := by exact rdx_ex (by first | exact pickA | exact updA) hr.r)
        rintro _ _ ⟨bs, cs, rfl, rfl⟩
        (refine CX.nil ?_; refine CQ.thenK ?_; apply hK; clear hK K)
        refine CH.chain rfl fun K hK => ?_
        refine CX.append (m := 4 + sl.b.length) (news := cb (rowB sl.b)) rfl rfl rfl (by first | exact pickA | exact updA) (rdS_of (rdx_own (e := 5) (by first | exact pickA | exact updA) (by simp [rowB_len])) (by simp [rowB_len])) (by omega) (fun h => by cases h) ?_
        intro a4 c4
        (refine CX.nil ?_; refine CQ.thenK ?_; apply hK; (· exact selA); clear hK K)
        refine hwk ?_
        have e : cb (X ++ rowB k) ++ [Value.int .u8 0] ++ cb (rowB sl.b) = cb Y := by rw [hT]; simp [cb_append]; rfl
        rw [e]
        refine wk ?_
        refine CQ.fact (own_fact (e := 5) (by first | exact pickA | exact updA) (by omega)) ?_
        rintro ⟨hc3, q3, rfl⟩
        refine CQ.round (x := (i, b, c)) (i + 1, q3, c4) (by dsimp only; omega) (by dsimp only; omega) ⟨eqI (by simp), rfl, rfl, slE (by simp only [hY]; omega), rfl, trivial⟩ (by simp only [hY]; rw [show X.length + (4 + k.length) + 1 + (4 + sl.b.length) = Y.length by omega]; exact selA)
    · obtain rfl : i = l.length := by omega
      rw [List.take_length, preB_all]
      refine wk ?_
      (apply CQ.end2; (· rfl); (· exact .tmp rfl); (· exact .tmp rfl))
      · exact ⟨fun _ => ⟨b, c, rfl, rfl⟩, fun h => absurd hm h⟩
      · exact selA
  · rw [decide_eq_false hm]
    rintro _ _ ⟨rfl, rfl⟩
    refine wk ?_
    (apply CQ.end2; (· rfl); (· exact .tmp rfl); (· exact .tmp rfl))
    · exact ⟨fun h => absurd h hm, fun _ => ⟨rfl, rfl⟩⟩
    · exact selA
end Go.Proofs.YtlckhaodecdbbaaGreatDoor
/-! Batches (batch.Get), in the program. -/
namespace Go.Cx
theorem Sep.merge {A B C : Assn} {L : List Assn} (hC : ∀ k, A.ok k → B.ok k → C.ok k) {h : PH} (s : Sep (A :: B :: L) h) : Sep (C :: L) h := by
  obtain ⟨S, a, b⟩ := Sep.append (H := [A, B]) s
  exact ⟨S, hC _ a.head a.tail.head, b⟩
theorem Sep.merge' {A B C : Assn} {L M N : List Assn} (p : Pick A L M) (q : Pick B M N) (hC : ∀ k, A.ok k → B.ok k → C.ok k) {h : PH} (s : Sep L h) : Sep (C :: N) h := Sep.merge hC (Sep.cons_mono (fun _ => q.sep) (p.sep s))
theorem Sep.intro {C : Assn} {L : List Assn} (hC : ∀ k, C.ok k) {h : PH} (s : Sep L h) : Sep (C :: L) h :=
  ⟨fun _ => false, hC _, by
    have : h.less (fun _ => false) = h := by funext x; simp [PH.less]
    rw [this]; exact s⟩
theorem Sep.turn {A C : Assn} {L M : List Assn} (p : Pick A L M) (hC : ∀ k, A.ok k → C.ok k) {h : PH} (s : Sep L h) : Sep (C :: M) h := by
  obtain ⟨S, a, b⟩ := p.sep s
  exact ⟨S, hC _ a, b⟩
/-- The values of changes, somewhere. -/
@[irreducible] def valC (l : List ChV) : Assn where
  ok h := ∀ r ∈ l, r.s.ok h
  mono := fun _ _ k e r hr => (e r hr).mono k
theorem valC_ok {l : List ChV} {h : PH} : (valC l).ok h ↔ ∀ r ∈ l, r.s.ok h := by
  unfold valC; exact Iff.rfl
@[irreducible] def valR (l : List RwV) : Assn where
  ok h := ∀ r ∈ l, r.s.ok h
  mono := fun _ _ k e r hr => (e r hr).mono k
theorem valR_ok {l : List RwV} {h : PH} : (valR l).ok h ↔ ∀ r ∈ l, r.s.ok h := by
  unfold valR; exact Iff.rfl
theorem only_true (h : PH) : h.only (fun _ => true) = h := by funext x; simp [PH.only]
theorem own_SlB {e c : Nat} {a : Option Addr} {b : Blk} {h : PH} (s : (own e 1 a b.length c (cb b)).ok h) : SlB.ok h ⟨a, b, c⟩ := by
  obtain ⟨h1, h2, h3, h4⟩ := own_ok.1 s
  refine ⟨fun ha => ?_, h2, h3, rdx_own (.head []) rfl h ⟨fun _ => true, by rw [only_true]; exact s, trivial⟩⟩
  rcases h4 with ⟨_, h0⟩ | ⟨g, _, h5, _⟩
  · exact ⟨List.eq_nil_of_length_eq_zero (show b.length = 0 by omega), h0⟩
  · dsimp only at ha; rw [ha] at h5; cases h5
theorem own_rdx {e sz n c : Nat} {a : Option Addr} {xs : List Value} {h : PH} (s : (own e sz a n c xs).ok h) (h1 : ∀ u ∈ xs, u.oneCell' = true) : rdx a (n * sz) xs h :=
  rdx_RdS (RdS.own (Pick.head []) h1 rfl) h ⟨fun _ => true, by rw [only_true]; exact s, trivial⟩
theorem valC_snoc {e c : Nat} {a : Option Addr} {b k : Blk} {gn : Bool} {l : List ChV} (h : PH) (s : (valC l).ok h) (t : (own e 1 a b.length c (cb b)).ok h) : (valC (l ++ [⟨k, ⟨a, b, c⟩, gn⟩])).ok h := valC_ok.2 fun r hr => by
  rcases List.mem_append.1 hr with hr | hr
  · exact valC_ok.1 s r hr
  · obtain rfl := List.mem_singleton.1 hr
    exact own_SlB t
theorem own_chs {e c : Nat} {a : Option Addr} {l : List ChV} (h : PH) (s : (own e 3 a l.length c (rows ChV.cells l)).ok h) (t : (valC l).ok h) : (chsA a l).ok h := chsA_ok.2 ⟨own_rdx s (one_ch l), valC_ok.1 t⟩
theorem own_tab {e c : Nat} {a : Option Addr} {l : List RwV} (h : PH) (s : (own e 2 a l.length c (rows RwV.cells l)).ok h) (t : (valR l).ok h) : (tabA a l).ok h := tabA_ok.2 ⟨own_rdx s (one_rw l), valR_ok.1 t⟩
theorem own_none {e sz n c : Nat} {a : Option Addr} {xs : List Value} {L L' : List Assn} (p : Pick (own e sz a n c xs) L L') : ∀ h, Sep L h → (a = none → n = 0 ∧ c = 0) ∧ n ≤ c ∧ c ≤ maxLen := fun h hs => by
  obtain ⟨h1, h2, h3, h4⟩ := own_ok.1 (p.ok hs)
  refine ⟨fun ha => ?_, h2, h3⟩
  rcases h4 with ⟨_, h0⟩ | ⟨g, _, h5, _⟩
  · exact ⟨by omega, h0⟩
  · rw [ha] at h5; cases h5
theorem chs_nil (k : PH) : (chsA none []).ok k := chsA_ok.2 ⟨.inl rfl, fun _ h => by cases h⟩
theorem ch_last {l : List ChV} (h : 0 < l.length) : (rows ChV.cells l)[0 + (l.length - 1) * 3 + 0]? = some (sv (l[l.length - 1]'(by omega)).key) := by
  rw [Nat.zero_add, rows_at ChV.cells 3 l (ch_len l) (l.length - 1) (by omega) 0 (by omega)]; rfl
theorem last_map {l : List ChV} (h : 0 < l.length) : (l.map ChV.m).getLast? = some (l[l.length - 1]'(by omega)).m := by
  rw [List.getLast?_eq_getElem?, List.length_map, List.getElem?_map, List.getElem?_eq_getElem (by omega)]; rfl
section
variable {P : Program} {ops : Array Oper} {Q : Exit → Act → World → Prop} {n : Nat} {e0 : World} {env : Env} {L M N : List Assn} {rest : List Oper} {K : Act → World → Prop} {A B C : Assn}
theorem CX.merge (C : Assn) (hC : ∀ k, A.ok k → B.ok k → C.ok k) (h : CX P ops Q n e0 env (C :: N) rest) (p : Pick A L M := by first | exact pickA | exact updA) (q : Pick B M N := by first | exact pickA | exact updA) : CX P ops Q n e0 env L rest := CX.mem (fun _ s => s.merge' p q hC) h
theorem CC.merge {c : Code} (C : Assn) (hC : ∀ k, A.ok k → B.ok k → C.ok k) (h : CC P c Q n e0 env (C :: N)) (p : Pick A L M := by first | exact pickA | exact updA) (q : Pick B M N := by first | exact pickA | exact updA) : CC P c Q n e0 env L := CC.mem (fun _ s => s.merge' p q hC) h
theorem CQ.merge (C : Assn) (hC : ∀ k, A.ok k → B.ok k → C.ok k) (h : CQ K n e0 env (C :: N)) (p : Pick A L M := by first | exact pickA | exact updA) (q : Pick B M N := by first | exact pickA | exact updA) : CQ K n e0 env L := CQ.mem (fun _ s => s.merge' p q hC) h
theorem CX.give (C : Assn) (hC : ∀ k, C.ok k) (h : CX P ops Q n e0 env (C :: L) rest) : CX P ops Q n e0 env L rest := CX.mem (fun _ s => s.intro hC) h
theorem CC.give {c : Code} (C : Assn) (hC : ∀ k, C.ok k) (h : CC P c Q n e0 env (C :: L)) : CC P c Q n e0 env L := CC.mem (fun _ s => s.intro hC) h
theorem CQ.give (C : Assn) (hC : ∀ k, C.ok k) (h : CQ K n e0 env (C :: L)) : CQ K n e0 env L := CQ.mem (fun _ s => s.intro hC) h
theorem CX.turn (C : Assn) (hC : ∀ k, A.ok k → C.ok k) (h : CX P ops Q n e0 env (C :: M) rest) (p : Pick A L M := by first | exact pickA | exact updA) : CX P ops Q n e0 env L rest := CX.mem (fun _ s => s.turn p hC) h
theorem CC.turn {c : Code} (C : Assn) (hC : ∀ k, A.ok k → C.ok k) (h : CC P c Q n e0 env (C :: M)) (p : Pick A L M := by first | exact pickA | exact updA) : CC P c Q n e0 env L := CC.mem (fun _ s => s.turn p hC) h
theorem CQ.turn (C : Assn) (hC : ∀ k, A.ok k → C.ok k) (h : CQ K n e0 env (C :: M)) (p : Pick A L M := by first | exact pickA | exact updA) : CQ K n e0 env L := CQ.mem (fun _ s => s.turn p hC) h
end
def GotB (B : Blk) (v : Value) (M : List Assn) : Prop :=
  ∃ a c l, l.map ChV.m = (getB B).1 ∧ v = .tuple #[.slice a l.length c, .int .i64 (getB B).2] ∧ M = [chsA a l] ∧ (a = none → l.length = 0 ∧ c = 0) ∧ l.length ≤ c ∧ l.length ≤ B.length
theorem getN_zero {B : Blk} : getN B 0 4 = if B.length < 4 then (0, 4) else (ofLe (B.take 4), 0) := by
  have := getN_four (B := B) (at_ := 0)
  rw [if_neg (by omega)] at this
  simpa using this
theorem oneB_nx {B : Blk} {at_ : Nat} (h : (oneB B at_).2.2 = 0) (hk : (oneB B at_).1.key ≠ []) : (oneB B at_).2.1 ≤ B.length ∧ at_ < (oneB B at_).2.1 := by
  have := one_inv (b := B) (at_ := at_) (c := (oneB B at_).1) (nx := (oneB B at_).2.1) (by rw [← h]) hk
  exact ⟨this.2.1, this.2.2.2.2⟩
theorem loopB_err {B : Blk} {k at_ : Nat} {l : List ChM} (h : (oneB B at_).2.2 ≠ 0) : loopB B (k + 1) l at_ = ([], (oneB B at_).2.2) := by rw [loopB, if_pos h]
theorem loopB_form {B : Blk} {k at_ : Nat} {l : List ChM} (h : (oneB B at_).2.2 = 0) (hf : fits l (oneB B at_).1 = false) : loopB B (k + 1) l at_ = ([], 5) := by rw [loopB, if_neg (by simp [h]), if_pos hf]
theorem loopB_go {B : Blk} {k at_ : Nat} {l : List ChM} (h : (oneB B at_).2.2 = 0) (hf : fits l (oneB B at_).1 = true) : loopB B (k + 1) l at_ = loopB B k (l ++ [(oneB B at_).1]) (oneB B at_).2.1 := by rw [loopB, if_neg (by simp [h]), if_neg (by simp [hf])]
end Go.Cx
namespace Go.Proofs.YtlckhaodecdbbaaGreatDoor
open Go.Cx
attribute [local irreducible] Go.Cx.CX Go.Cx.CC Go.Cx.CQ Go.Cx.PS Go.Cx.Ctr Go.Cx.CH
set_option maxRecDepth 10000
theorem bget_c (B : Blk) (hB : B.length ≤ 70368744000000) (a : Option Addr) (cap : Nat) (hcap : B.length ≤ cap) : Ctr Tryz.prog 53 [.slice a B.length cap] [] (fun x => rdx a B.length (cb B) x) (GotB B) := by
  unfold GotB
  refine Ctr.intro Tryz.func53 rfl Tryz.ntmps53 rfl fun x w hp => ?_
  refine wk ?_
  refine CX.callA (nget_c B a cap 0 4 (by omega) (by omega) (by omega)) ?_ (hpre := by exact rdx_ex (by first | exact pickA | exact updA) hp)
  rw [getN_zero]
  by_cases h4 : B.length < 4
  · rw [if_pos h4, show getB B = ([], 4) by unfold getB; rw [if_pos h4]]
    rintro _ _ ⟨rfl, rfl⟩
    refine wk ?_
    refine CQ.give (chsA none []) chs_nil ?_
    (apply CQ.end2; (· rfl); (· exact .tmp rfl); (· exact .tmp rfl))
    · exact ⟨none, 0, [], rfl, rfl, rfl, fun _ => ⟨rfl, rfl⟩, Nat.le_refl _, Nat.zero_le _⟩
    · exact selA
  rw [if_neg h4]
  have hG : getB B = loopB B (ofLe (B.take 4)) [] 4 := by unfold getB; rw [if_neg h4]
  have hn32 := ofLe_lt (B.take 4)
  rw [show (B.take 4).length = 4 by simp; omega] at hn32
  generalize ofLe (B.take 4) = k at hn32 hG
  rintro _ _ ⟨rfl, rfl⟩
  refine wk ?_
  refine CC.ownNil 68 3 ?_
  refine CC.give (valC []) (fun _ => valC_ok.2 fun _ h => by cases h) ?_
  refine CC.loop (X := Nat × List ChV × Nat × Option Addr × Nat) (fun s => [(20, .int .u64 (s.1 : Int)), (19, .int .u64 (k : Int)), (0, .slice a B.length cap), (6, .slice s.2.2.2.1 s.2.1.length s.2.2.2.2), (7, .int .i64 (s.2.2.1 : Int))])
    (fun s => [own 68 3 s.2.2.2.1 s.2.1.length s.2.2.2.2 (rows ChV.cells s.2.1), valC s.2.1, exact x])
    (fun s => s.1 ≤ k ∧ loopB B (k - s.1) (s.2.1.map ChV.m) s.2.2.1 = getB B ∧ s.2.2.1 ≤ B.length ∧ s.2.1.length + 4 ≤ s.2.2.1 ∧ s.2.1.length ≤ s.1) (fun s => k - s.1) (0, [], 4, none, 0) ⟨Nat.zero_le _, hG.symm, by dsimp only; omega, by simp, Nat.le_refl _⟩ ⟨rfl, rfl, rfl, rfl, rfl, trivial⟩ (by exact selA) ?_
  rintro ⟨i, l, p, a1, c1⟩ ⟨hi, hL, hpb, hlp, hli⟩
  dsimp only at hi hL hpb hlp hli ⊢
  by_cases h1 : i < k
  · rw [show k - i = (k - (i + 1)) + 1 by omega] at hL
    have ho := one_c B (by omega) a cap hcap p (by omega)
    by_cases h2 : (oneB B p).2.2 = 0
    · have hnx := oneB_nx h2
      have hF : fits (l.map ChV.m) (oneB B p).1 = false → getB B = ([], 5) := fun hf => by rw [loopB_form h2 hf] at hL; exact hL.symm
      have hT : fits (l.map ChV.m) (oneB B p).1 = true → loopB B (k - (i + 1)) (l.map ChV.m ++ [(oneB B p).1]) (oneB B p).2.1 = getB B := fun hf => by rw [loopB_go h2 hf] at hL; exact hL
      clear hL
      unfold GotOne at ho
      generalize oneB B p = o at *
      obtain ⟨⟨ck, cv, cg⟩, nx, e⟩ := o
      dsimp only at ho h2 hnx hF hT
      subst h2
      by_cases h0 : l.length = 0
      · obtain rfl : l = [] := List.eq_nil_of_length_eq_zero h0
        by_cases hk : ck = []
        · subst hk
          rw [hF (by rfl)]
          refine wk ?_
          refine CX.callA (ho) ?_ (hpre := by exact rdx_ex (by first | exact pickA | exact updA) hp)
          rintro _ _ ⟨a2, c2, rfl, rfl⟩
          refine wk ?_
          refine CX.allocZ [sv [], .slice none 0 0, .bool false] ?_ (hv := rfl)
          intro b8
          (refine CX.storeB (vs := [sv [], .slice a2 cv.length c2, .bool cg]) ?_ ?_ ?_ ?_; (· rfl); (· rfl); (· exact one_all rfl))
          refine wk ?_
          refine CC.draw [(0, 0), (1, 0), (2, 0), (3, 0), (4, 0), (5, 0), (6, 0), (7, 0), (8, 0), (9, 0), (10, 1), (11, 0), (12, 1), (13, 0), (14, 0), (15, 0), (16, 0), (17, 1), (18, 0), (19, 0)] mixed rfl (by kernel_rfl) (by kernel_rfl) [bk b8 68 [sv [], .slice a2 cv.length c2, .bool cg]] ?_
          refine hwk ?_
          refine CH.pure rfl ((PS.eqlStr (a := []) (b := []) rfl rfl rfl).toT rfl) ?_
          refine hwk ?_
          refine wk ?_
          refine CQ.give (chsA none []) chs_nil ?_
          (apply CQ.end2; (· rfl); (· exact .tmp rfl); (· exact .tmp rfl))
          · exact ⟨none, 0, [], rfl, rfl, rfl, fun _ => ⟨rfl, rfl⟩, Nat.le_refl _, Nat.zero_le _⟩
          · exact selA
        · have hf : fits (([] : List ChV).map ChV.m) ⟨ck, cv, cg⟩ = true := fits_iff.2 ⟨fun y hy => by simp at hy, hk⟩
          have hT' := hT hf
          have hn := hnx hk
          refine wk ?_
          refine CX.callA (ho) ?_ (hpre := by exact rdx_ex (by first | exact pickA | exact updA) hp)
          rintro _ _ ⟨a2, c2, rfl, rfl⟩
          refine wk ?_
          refine CX.allocZ [sv [], .slice none 0 0, .bool false] ?_ (hv := rfl)
          intro b8
          (refine CX.storeB (vs := [sv ck, .slice a2 cv.length c2, .bool cg]) ?_ ?_ ?_ ?_; (· rfl); (· rfl); (· exact one_all rfl))
          refine wk ?_
          refine CC.draw [(0, 0), (1, 0), (2, 0), (3, 0), (4, 0), (5, 0), (6, 0), (7, 0), (8, 0), (9, 0), (10, 1), (11, 0), (12, 1), (13, 0), (14, 0), (15, 0), (16, 0), (17, 1), (18, 0), (19, 0)] mixed rfl (by kernel_rfl) (by kernel_rfl) [bk b8 68 [sv ck, .slice a2 cv.length c2, .bool cg]] ?_
          refine hwk ?_
          refine CH.pure rfl ((PS.eqlStr (a := ck) (b := []) rfl rfl rfl).toF hk) ?_
          refine hwk ?_
          refine wk ?_
          (apply CX.ps; (· apply PS.loadG (vs := [sv ck, .slice a2 cv.length c2, .bool cg]); (· rfl); (· rfl); (· exact CellsAt.all (by first | exact pickA | exact updA)); (· rfl)))
          refine CX.buildSl (parts := [(0, _)]) (vs := [(0, .agg #[sv ck, .slice a2 cv.length c2, .bool cg])]) (out := [sv ck, .slice a2 cv.length c2, .bool cg]) rfl rfl (by decide) (by simp [fillL, Value.cells, setL]) fun bq => ?_
          refine CX.append (m := 1) (news := [sv ck, .slice a2 cv.length c2, .bool cg]) rfl rfl rfl (by first | exact pickA | exact updA) (RdS.pick (b := bq) (o := 0) (by first | exact pickA | exact updA) rfl (one_all rfl) rfl) (by simp only [List.length_nil]; omega) (fun h => by cases h) ?_
          intro a3 c3
          refine CX.merge (valC ([] ++ [⟨ck, ⟨a2, cv, c2⟩, cg⟩])) valC_snoc ?_
          refine wk ?_
          exact CQ.round (x := (i, [], p, a1, c1)) (i + 1, [] ++ [⟨ck, ⟨a2, cv, c2⟩, cg⟩], nx, a3, c3) ⟨by dsimp only; omega, by dsimp only; rw [List.map_append]; exact hT', hn.1, by simp only [List.length_append, List.length_singleton, List.length_nil]; omega, by simp only [List.length_append, List.length_singleton, List.length_nil]; omega⟩ (by dsimp only; omega) ⟨eqI (by simp), rfl, rfl, slE (by simp), rfl, trivial⟩ (by simp only [rows_append, List.length_append]; exact selA)
      · have hl0 : 0 < l.length := by omega
        have hlast := last_map hl0
        refine CC.fact (own_fact (e := 68) (sz := 3) (by first | exact pickA | exact updA) hl0) ?_
        rintro ⟨hc1, q, rfl⟩
        by_cases hq : klt (l[l.length - 1]).key ck = true
        · have hk : ck ≠ [] := fun h => by rw [h, klt_nil] at hq; cases hq
          have hf : fits (l.map ChV.m) ⟨ck, cv, cg⟩ = true := fits_iff.2 ⟨fun y hy => by rw [hlast] at hy; cases hy; exact hq, hk⟩
          have hT' := hT hf
          have hn := hnx hk
          refine wk ?_
          refine CX.callA (ho) ?_ (hpre := by exact rdx_ex (by first | exact pickA | exact updA) hp)
          rintro _ _ ⟨a2, c2, rfl, rfl⟩
          refine wk ?_
          refine CX.allocZ [sv [], .slice none 0 0, .bool false] ?_ (hv := rfl)
          intro b8
          (refine CX.storeB (vs := [sv ck, .slice a2 cv.length c2, .bool cg]) ?_ ?_ ?_ ?_; (· rfl); (· rfl); (· exact one_all rfl))
          refine wk ?_
          refine CC.draw [(0, 0), (1, 0), (2, 0), (3, 0), (4, 0), (5, 0), (6, 0), (7, 0), (8, 0), (9, 0), (10, 1), (11, 0), (12, 1), (13, 0), (14, 0), (15, 0), (16, 0), (17, 1), (18, 0), (19, 0)] mixed rfl (by kernel_rfl) (by kernel_rfl) [own 68 3 (some ⟨q, 0, none⟩) l.length c1 (rows ChV.cells l), bk b8 68 [sv ck, .slice a2 cv.length c2, .bool cg]] ?_
          refine hwk ?_
          refine CH.pure rfl (PS.indexAddr (j := l.length - 1) rfl rfl rfl (by omega) (by omega)) ?_
          refine hwk ?_
          (apply CH.read; (· rfl); (· apply PS.load (v := sv (l[l.length - 1]).key); (· rfl); (· rfl); (· exact CellAt.own (by first | exact pickA | exact updA) (ch_last (by omega)))); (· exact selA))
          refine hwk ?_
          refine CH.pure rfl (PS.geqStr false (by rw [hq]; rfl)) ?_
          refine hwk ?_
          refine CH.pure rfl ((PS.eqlStr (a := ck) (b := []) rfl rfl rfl).toF hk) ?_
          refine hwk ?_
          refine wk ?_
          (apply CX.ps; (· apply PS.loadG (vs := [sv ck, .slice a2 cv.length c2, .bool cg]); (· rfl); (· rfl); (· exact CellsAt.all (by first | exact pickA | exact updA)); (· rfl)))
          refine CX.buildSl (parts := [(0, _)]) (vs := [(0, .agg #[sv ck, .slice a2 cv.length c2, .bool cg])]) (out := [sv ck, .slice a2 cv.length c2, .bool cg]) rfl rfl (by decide) (by simp [fillL, Value.cells, setL]) fun bq => ?_
          refine CX.append (m := 1) (news := [sv ck, .slice a2 cv.length c2, .bool cg]) rfl rfl rfl (by first | exact pickA | exact updA) (RdS.pick (b := bq) (o := 0) (by first | exact pickA | exact updA) rfl (one_all rfl) rfl) (by omega) (fun h => by cases h) ?_
          intro a3 c3
          refine CX.merge (valC (l ++ [⟨ck, ⟨a2, cv, c2⟩, cg⟩])) valC_snoc ?_
          refine wk ?_
          exact CQ.round (x := (i, l, p, some ⟨q, 0, none⟩, c1)) (i + 1, l ++ [⟨ck, ⟨a2, cv, c2⟩, cg⟩], nx, a3, c3) ⟨by dsimp only; omega, by dsimp only; rw [List.map_append]; exact hT', hn.1, by simp only [List.length_append, List.length_singleton]; omega, by simp only [List.length_append, List.length_singleton]; omega⟩ (by dsimp only; omega) ⟨eqI (by simp), rfl, rfl, slE (by simp), rfl, trivial⟩ (by simp only [rows_append, List.length_append]; exact selA)
        · have hq : klt (l[l.length - 1]).key ck = false := by simpa using hq
          have hf : fits (l.map ChV.m) ⟨ck, cv, cg⟩ = false := by
            cases hfb : fits (l.map ChV.m) ⟨ck, cv, cg⟩ with
            | false => rfl
            | true => have := (fits_iff.1 hfb).1 _ hlast; rw [show klt (l[l.length - 1]).m.key ck = false from hq] at this; cases this
          rw [hF hf]
          refine wk ?_
          refine CX.callA (ho) ?_ (hpre := by exact rdx_ex (by first | exact pickA | exact updA) hp)
          rintro _ _ ⟨a2, c2, rfl, rfl⟩
          refine wk ?_
          refine CX.allocZ [sv [], .slice none 0 0, .bool false] ?_ (hv := rfl)
          intro b8
          (refine CX.storeB (vs := [sv ck, .slice a2 cv.length c2, .bool cg]) ?_ ?_ ?_ ?_; (· rfl); (· rfl); (· exact one_all rfl))
          refine wk ?_
          refine CC.draw [(0, 0), (1, 0), (2, 0), (3, 0), (4, 0), (5, 0), (6, 0), (7, 0), (8, 0), (9, 0), (10, 1), (11, 0), (12, 1), (13, 0), (14, 0), (15, 0), (16, 0), (17, 1), (18, 0), (19, 0)] mixed rfl (by kernel_rfl) (by kernel_rfl) [own 68 3 (some ⟨q, 0, none⟩) l.length c1 (rows ChV.cells l), bk b8 68 [sv ck, .slice a2 cv.length c2, .bool cg]] ?_
          refine hwk ?_
          refine CH.pure rfl (PS.indexAddr (j := l.length - 1) rfl rfl rfl (by omega) (by omega)) ?_
          refine hwk ?_
          (apply CH.read; (· rfl); (· apply PS.load (v := sv (l[l.length - 1]).key); (· rfl); (· rfl); (· exact CellAt.own (by first | exact pickA | exact updA) (ch_last (by omega)))); (· exact selA))
          refine hwk ?_
          refine CH.pure rfl (PS.geqStr true (by rw [hq]; rfl)) ?_
          refine hwk ?_
          refine wk ?_
          refine CQ.give (chsA none []) chs_nil ?_
          (apply CQ.end2; (· rfl); (· exact .tmp rfl); (· exact .tmp rfl))
          · exact ⟨none, 0, [], rfl, rfl, rfl, fun _ => ⟨rfl, rfl⟩, Nat.le_refl _, Nat.zero_le _⟩
          · exact selA
    · rw [loopB_err h2] at hL
      rw [← hL]
      unfold GotOne at ho
      generalize oneB B p = o at *
      refine wk ?_
      refine CX.callA (ho) ?_ (hpre := by exact rdx_ex (by first | exact pickA | exact updA) hp)
      rintro _ _ ⟨a2, c2, rfl, rfl⟩
      refine wk ?_
      refine CX.allocZ [sv [], .slice none 0 0, .bool false] ?_ (hv := rfl)
      intro b8
      (refine CX.storeB (vs := [sv o.1.key, .slice a2 o.1.val.length c2, .bool o.1.gone]) ?_ ?_ ?_ ?_; (· rfl); (· rfl); (· exact one_all rfl))
      refine wk ?_
      refine CQ.give (chsA none []) chs_nil ?_
      (apply CQ.end2; (· rfl); (· exact .tmp rfl); (· exact .tmp rfl))
      · exact ⟨none, 0, [], rfl, rfl, rfl, fun _ => ⟨rfl, rfl⟩, Nat.le_refl _, Nat.zero_le _⟩
      · exact selA
  · obtain rfl : i = k := by omega
    rw [Nat.sub_self, loopB] at hL
    by_cases h5 : p ≠ B.length
    · rw [if_pos h5] at hL
      rw [← hL]
      refine wk ?_
      refine CQ.give (chsA none []) chs_nil ?_
      (apply CQ.end2; (· rfl); (· exact .tmp rfl); (· exact .tmp rfl))
      · exact ⟨none, 0, [], rfl, rfl, rfl, fun _ => ⟨rfl, rfl⟩, Nat.le_refl _, Nat.zero_le _⟩
      · exact selA
    · have h5' : p = B.length := by omega
      rw [if_neg h5] at hL
      rw [← hL]
      refine wk ?_
      refine CQ.fact (own_none (e := 68) (sz := 3) (by first | exact pickA | exact updA)) ?_
      rintro ⟨hn1, hn2, hn3⟩
      refine CQ.merge (chsA a1 l) own_chs ?_
      (apply CQ.end2; (· rfl); (· exact .tmp rfl); (· exact .tmp rfl))
      · exact ⟨a1, c1, l, rfl, rfl, rfl, hn1, hn2, by omega⟩
      · exact selA
end Go.Proofs.YtlckhaodecdbbaaGreatDoor
/-! Are changes, or rows, the same (ref 00), in the program. Printed by bx.py (wip). -/
namespace Go.Proofs.YtlckhaodecdbbaaGreatDoor
open Go.Cx
attribute [local irreducible] Go.Cx.CX Go.Cx.CC Go.Cx.CQ Go.Cx.PS Go.Cx.Ctr Go.Cx.CH
set_option maxRecDepth 10000
theorem eqmR_c (l k : List RwV) (hl : l.length ≤ 9223372036854775806) (a b : Option Addr) (ca cb' : Nat) (hkl : k.length ≤ 9223372036854775806) : Ctr Tryz.prog 16 [.slice a l.length ca, .slice b k.length cb'] [] (fun x => rwAt a l x ∧ rwAt b k x) (fun v M => v = .bool (decide (l.map RwV.m = k.map RwV.m)) ∧ M = []) := by
  refine Ctr.intro Tryz.func16 rfl Tryz.ntmps16 rfl fun x w hp => ?_
  by_cases hn : l.length = k.length
  · refine wk ?_
    refine CC.loop (X := Nat) (fun i => [(5, .int .i64 (i : Int)), (0, .slice a l.length ca), (1, .slice b k.length cb')]) (fun i => [exact x]) (fun i => i ≤ l.length ∧ ∀ j (h : j < l.length) (h' : j < k.length), j < i → (l[j]).m = (k[j]).m) (fun i => l.length - i) 0 ⟨Nat.zero_le _, fun j h h' h0 => by omega⟩ ⟨rfl, rfl, rfl, trivial⟩ (by exact selA) ?_
    rintro i ⟨hi, hpre⟩
    by_cases h1 : i < l.length
    · have h2 : i < k.length := by omega
      obtain ⟨g, off, rfl⟩ := rwAt_some hp.1 (by omega)
      obtain ⟨g', off', rfl⟩ := rwAt_some hp.2 (by omega)
      have hr := hp.1.2 l[i] (List.getElem_mem h1)
      have hr' := hp.2.2 k[i] (List.getElem_mem h2)
      have eat : l.map RwV.m = k.map RwV.m → ∀ j (h : j < l.length) (h' : j < k.length), (l[j]).m = (k[j]).m := fun e j h h' => by
        have := congrArg (fun z => z[j]?) e
        simpa [h, h'] using this
      by_cases hk : (l[i]).key = (k[i]).key
      rotate_left
      · have hne : (l[i]).m ≠ (k[i]).m := fun e => hk (congrArg Prod.fst e)
        refine wk ?_
        refine CC.draw [(0, 0), (1, 0), (2, 0), (3, 0), (4, 1), (5, 0), (6, 0), (7, 0), (8, 0), (9, 1), (10, 0), (11, 0), (12, 0), (13, 0), (14, 0), (15, 0), (16, 1), (17, 0), (18, 0), (19, 0), (20, 0), (21, 1), (22, 2), (23, 0), (24, 0)] mixed rfl (by kernel_rfl) (by kernel_rfl) [exact x] ?_
        refine hwk ?_
        refine CH.pure rfl (PS.indexAddr (j := i) rfl rfl rfl rfl (by omega)) ?_
        refine hwk ?_
        (apply CH.read; (· rfl); (· apply PS.load (v := sv (l[i]).key); (· rfl); (· rfl); (· exact hp.1.cell (by first | exact pickA | exact updA) h1 0 rfl)); (· exact selA))
        refine hwk ?_
        refine CH.pure rfl (PS.indexAddr (j := i) rfl rfl rfl rfl (by omega)) ?_
        refine hwk ?_
        (apply CH.read; (· rfl); (· apply PS.load (v := sv (k[i]).key); (· rfl); (· rfl); (· exact hp.2.cell (by first | exact pickA | exact updA) h2 0 rfl)); (· exact selA))
        refine CH.pure rfl ((PS.neqStr (a := (l[i]).key) (b := (k[i]).key) rfl rfl rfl).toT hk) ?_
        refine hwk ?_
        refine wk ?_
        ((apply CQ.end1; (· rfl); (· exact .tmp rfl)); (· exact ⟨by rw [decide_eq_false fun e => hne (eat e i h1 h2)], rfl⟩); (· exact selA))
      by_cases hb : (l[i]).s.b = (k[i]).s.b
      rotate_left
      · have hne : (l[i]).m ≠ (k[i]).m := fun e => hb (congrArg Prod.snd e)
        refine wk ?_
        refine CC.draw [(0, 0), (1, 0), (2, 0), (3, 0), (4, 1), (5, 0), (6, 0), (7, 0), (8, 0), (9, 1), (10, 0), (11, 0), (12, 0), (13, 0), (14, 0), (15, 0), (16, 1), (17, 0), (18, 0), (19, 0), (20, 0), (21, 1), (22, 2), (23, 0), (24, 0)] mixed rfl (by kernel_rfl) (by kernel_rfl) [exact x] ?_
        refine hwk ?_
        refine CH.pure rfl (PS.indexAddr (j := i) rfl rfl rfl rfl (by omega)) ?_
        refine hwk ?_
        (apply CH.read; (· rfl); (· apply PS.load (v := sv (l[i]).key); (· rfl); (· rfl); (· exact hp.1.cell (by first | exact pickA | exact updA) h1 0 rfl)); (· exact selA))
        refine hwk ?_
        refine CH.pure rfl (PS.indexAddr (j := i) rfl rfl rfl rfl (by omega)) ?_
        refine hwk ?_
        (apply CH.read; (· rfl); (· apply PS.load (v := sv (k[i]).key); (· rfl); (· rfl); (· exact hp.2.cell (by first | exact pickA | exact updA) h2 0 rfl)); (· exact selA))
        refine CH.pure rfl ((PS.neqStr (a := (l[i]).key) (b := (k[i]).key) rfl rfl rfl).toF (fun h => h hk)) ?_
        refine hwk ?_
        refine CH.pure rfl (PS.indexAddr (j := i) rfl rfl rfl rfl (by omega)) ?_
        refine hwk ?_
        (apply CH.read; (· rfl); (· apply PS.load (v := .slice (l[i]).s.a (l[i]).s.b.length (l[i]).s.c); (· rfl); (· rfl); (· exact hp.1.cell (by first | exact pickA | exact updA) h1 1 rfl)); (· exact selA))
        refine hwk ?_
        refine CH.pure rfl (PS.indexAddr (j := i) rfl rfl rfl rfl (by omega)) ?_
        refine hwk ?_
        (apply CH.read; (· rfl); (· apply PS.load (v := .slice (k[i]).s.a (k[i]).s.b.length (k[i]).s.c); (· rfl); (· rfl); (· exact hp.2.cell (by first | exact pickA | exact updA) h2 1 rfl)); (· exact selA))
        refine CH.chain rfl fun K hK => ?_
        refine CX.callA (same_c (l[i]).s.b (k[i]).s.b (l[i]).s.a (k[i]).s.a (l[i]).s.c (k[i]).s.c) ?_ (hpre := by exact fun y hy => ⟨rdx_ex (show Pick (exact x) _ _ from by first | exact pickA | exact updA) hr.r y hy, rdx_ex (show Pick (exact x) _ _ from by first | exact pickA | exact updA) hr'.r y hy⟩)
        rw [decide_eq_false hb]
        rintro _ _ ⟨rfl, rfl⟩
        (refine CX.nil ?_; refine CQ.thenK ?_; apply hK; (· exact selA); clear hK K)
        refine hwk ?_
        refine wk ?_
        ((apply CQ.end1; (· rfl); (· exact .tmp rfl)); (· exact ⟨by rw [decide_eq_false fun e => hne (eat e i h1 h2)], rfl⟩); (· exact selA))
      · have heq : (l[i]).m = (k[i]).m := by unfold RwV.m; rw [hk, hb]
        refine wk ?_
        refine CC.draw [(0, 0), (1, 0), (2, 0), (3, 0), (4, 1), (5, 0), (6, 0), (7, 0), (8, 0), (9, 1), (10, 0), (11, 0), (12, 0), (13, 0), (14, 0), (15, 0), (16, 1), (17, 0), (18, 0), (19, 0), (20, 0), (21, 1), (22, 2), (23, 0), (24, 0)] mixed rfl (by kernel_rfl) (by kernel_rfl) [exact x] ?_
        refine hwk ?_
        refine CH.pure rfl (PS.indexAddr (j := i) rfl rfl rfl rfl (by omega)) ?_
        refine hwk ?_
        (apply CH.read; (· rfl); (· apply PS.load (v := sv (l[i]).key); (· rfl); (· rfl); (· exact hp.1.cell (by first | exact pickA | exact updA) h1 0 rfl)); (· exact selA))
        refine hwk ?_
        refine CH.pure rfl (PS.indexAddr (j := i) rfl rfl rfl rfl (by omega)) ?_
        refine hwk ?_
        (apply CH.read; (· rfl); (· apply PS.load (v := sv (k[i]).key); (· rfl); (· rfl); (· exact hp.2.cell (by first | exact pickA | exact updA) h2 0 rfl)); (· exact selA))
        refine CH.pure rfl ((PS.neqStr (a := (l[i]).key) (b := (k[i]).key) rfl rfl rfl).toF (fun h => h hk)) ?_
        refine hwk ?_
        refine CH.pure rfl (PS.indexAddr (j := i) rfl rfl rfl rfl (by omega)) ?_
        refine hwk ?_
        (apply CH.read; (· rfl); (· apply PS.load (v := .slice (l[i]).s.a (l[i]).s.b.length (l[i]).s.c); (· rfl); (· rfl); (· exact hp.1.cell (by first | exact pickA | exact updA) h1 1 rfl)); (· exact selA))
        refine hwk ?_
        refine CH.pure rfl (PS.indexAddr (j := i) rfl rfl rfl rfl (by omega)) ?_
        refine hwk ?_
        (apply CH.read; (· rfl); (· apply PS.load (v := .slice (k[i]).s.a (k[i]).s.b.length (k[i]).s.c); (· rfl); (· rfl); (· exact hp.2.cell (by first | exact pickA | exact updA) h2 1 rfl)); (· exact selA))
        refine CH.chain rfl fun K hK => ?_
        refine CX.callA (same_c (l[i]).s.b (k[i]).s.b (l[i]).s.a (k[i]).s.a (l[i]).s.c (k[i]).s.c) ?_ (hpre := by exact fun y hy => ⟨rdx_ex (show Pick (exact x) _ _ from by first | exact pickA | exact updA) hr.r y hy, rdx_ex (show Pick (exact x) _ _ from by first | exact pickA | exact updA) hr'.r y hy⟩)
        rw [decide_eq_true hb]
        rintro _ _ ⟨rfl, rfl⟩
        (refine CX.nil ?_; refine CQ.thenK ?_; apply hK; (· exact selA); clear hK K)
        refine hwk ?_
        refine wk ?_
        exact CQ.round (i + 1) ⟨by omega, fun j h h' h0 => by
          by_cases e : j < i
          · exact hpre j h h' e
          · obtain rfl : j = i := by omega
            exact heq⟩ (by omega) ⟨eqI (by omega), rfl, rfl, trivial⟩ (by exact selA)
    · obtain rfl : i = l.length := by omega
      have e : l.map RwV.m = k.map RwV.m := List.ext_getElem (by simpa using hn) fun j h h' => by simpa using hpre j (by simpa using h) (by simpa using h') (by simpa using h)
      refine wk ?_
      ((apply CQ.end1; (· rfl); (· exact .tmp rfl)); (· exact ⟨by rw [decide_eq_true e], rfl⟩); (· exact selA))
  · have e : l.map RwV.m ≠ k.map RwV.m := fun h => hn (by simpa using congrArg List.length h)
    refine wk ?_
    ((apply CQ.end1; (· rfl); (· exact .tmp rfl)); (· exact ⟨by rw [decide_eq_false e], rfl⟩); (· exact selA))
end Go.Proofs.YtlckhaodecdbbaaGreatDoor
/-! Two lists gone through at once (batch.merged), in the program. Printed by mg.py (wip). -/
namespace Go.Cx
/-- Parts of the memory as one. -/
@[irreducible] def many (M : List Assn) : Assn where
  ok h := Sep M h
  mono := fun _ _ l s => s.mono l
theorem many_ok {M : List Assn} {h : PH} : (many M).ok h ↔ Sep M h := by
  unfold many; exact Iff.rfl
theorem Sep.many_in {M L : List Assn} {h : PH} (s : Sep (M ++ L) h) : Sep (many M :: L) h := by
  obtain ⟨S, a, b⟩ := s.append
  exact ⟨S, many_ok.2 a, b⟩
theorem Sep.many_out {M L : List Assn} {h : PH} (s : Sep (many M :: L) h) : Sep (M ++ L) h := by
  obtain ⟨S, a, b⟩ := s
  exact Sep.join S (many_ok.1 a) b
section
variable {P : Program} {ops : Array Oper} {Q : Exit → Act → World → Prop} {n l : Nat} {e0 : World} {env : Env} {L : List Assn} {rest : List Oper}
variable {dst : Option Tmp} {ty : TypeId} {pos : String} {aft : Array Edge} {g : Option (Nat × Bool)} {op : Op}
theorem CXI.yieldM {y : Operand} {xs : List Operand} {tys : Array TypeId} {vs : List Value} {x : PH} {I : Nat → List Assn → Prop} {encs : List (List Value)} {k : Nat} {M L' N : List Assn}
    (hY : ∀ k v M y w, encs[k]? = some v → I k M → Le x y → Sep (M ++ [exact y]) w.ph → YieldAt Fence.wide 0 P l v.toArray w (CtrR y w (fun u M' => u = .bool true ∧ I (k + 1) M')))
    (hk : encs[k]? = some vs) (hI : I k M)
    (h : ∀ M', I (k + 1) M' → CXI P ops Q n e0 (putE env dst (.bool true)) (many M' :: L') rest) (p : Pick (many M) L L' := by first | exact pickA | exact updA) (q : Pick (exact x) L' N := by first | exact pickA | exact updA) (hg : gd ops n env g = some true := by rfl)
    (hy : ev n env y = some (.func (.yield l) #[] #[]) := by rfl) (hx : evs n env xs = some vs := by rfl) :
    CXI P ops Q n e0 env L (⟨dst, .call ⟨.value y, xs.toArray, tys⟩, ty, pos, aft, g⟩ :: rest) :=
  CXI.step hg fun a w hf hs he => by
    obtain ⟨z, hz, hl⟩ := ((p.sep hs).many_out).rest
    obtain ⟨fn, tmps, assign, body, hrun, hR⟩ := hY k vs M z w hk hI (q.ok hl) hz
    refine ⟨fun _ _ => trivial, ?_⟩
    have hm := hf.evals hx
    have hv := hf.eval hy
    have e : (execOp a.eval ⟨dst, .call ⟨.value y, xs.toArray, tys⟩, ty, pos, aft, g⟩).run P w = .ok (.round l fn tmps assign body) w := by
      rw [← hrun, ← hm]
      simp [execOp, resolve, hv, Deferred.ofValue, invoke]
    rw [show Fence.wide.round = none from rfl, Oper.semAt_none, e]
    refine ⟨FW_depth none, hR.mono ?_⟩
    rintro e w' ⟨v, M', ⟨rfl, hI'⟩, rfl, hs', he'⟩
    exact h M' hI' _ _ (hf.put dst _) ((hs'.unrest hl).many_in) (he.trans he')
theorem Iter.intro {f : FuncId} {fn : Func} {c : Code} {caps : List Value} {H : List Assn} {Rd : PH → Prop} {encs : List (List Value)}
    (hf : P.funcs[f]? = some fn) (hb : fn.body = some c) (hn : fn.ntmps = n) (hl : Nat.ble (caps.length + 1) n = true)
    (h : ∀ (l : Nat) (x : PH) (I : Nat → List Assn → Prop) (w : World), Rd x →
      (∀ k v M y w, encs[k]? = some v → I k M → Le x y → Sep (M ++ [exact y]) w.ph → YieldAt Fence.wide 0 P l v.toArray w (CtrR y w (fun u M' => u = .bool true ∧ I (k + 1) M'))) →
      ∀ M0, I 0 M0 → CC P c (bodyPost P fn (CtrR x w (fun v M => v = .tuple #[] ∧ I encs.length M))) n w (argE (.func (.yield l) #[] #[] :: caps) 0) (many M0 :: (H ++ [exact x]))) : Iter P f caps H Rd encs := by
  intro l x I hrd hY M0 w hI hs
  have hl' := Nat.le_of_ble_eq_true hl
  refine calls_of_wp hf hb (h l x I w hrd hY M0 hI _ w ⟨rfl, ?_, fun t v ht hlk => ?_⟩ ?_ (Env0.refl w))
  · simp [hn]; omega
  · obtain ⟨j, e, hj⟩ := look_argE _ _ _ _ hlk
    have hjl : j < (Value.func (.yield l) #[] #[] :: caps).length := (List.getElem?_eq_some_iff.1 hj).1
    subst e
    simp only [Nat.zero_add, Array.getD_eq_getD_getElem?]
    rw [Array.getElem?_append_left (by simpa using hjl)]
    simp [hj]
  · rw [List.append_assoc] at hs
    have h1 : Sep (many M0 :: (H ++ [exact x])) w.ph := by
      obtain ⟨S, a, b⟩ := hs.append
      have e3 : Sep (many M0 :: [exact x]) (w.ph.less S) := b.many_in
      have e4 : Sep (H ++ (many M0 :: [exact x])) w.ph := Sep.join S a e3
      exact (pick_mid (many M0) H [exact x]).sep e4
    exact h1
theorem CQ.endIter {fn : Func} {x : PH} {I : Nat → List Assn → Prop} {k m : Nat} {M L' N : List Assn} (hr : fn.results = #[]) (hI : I k M) (e : k = m) (p : Pick (many M) L L' := by first | exact pickA | exact updA) (q : Pick (exact x) L' N := by first | exact pickA | exact updA) :
    CQ (bodyPost P fn (CtrR x e0 (fun v M => v = .tuple #[] ∧ I m M)) .normal) n e0 env L := fun a w hf hs he => by
  subst e
  have s2 : Sep (many M :: exact x :: N) w.ph := Sep.cons_mono (fun _ => q.sep) (p.sep hs)
  have s3 : Sep ([many M, exact x] ++ N) w.ph := s2
  exact ⟨hf.defers, _, fin0 hr w, _, M, ⟨rfl, hI⟩, rfl, (s3.left).many_out, he⟩
end
/-! ### What is handed out -/
def mrg {α β : Type} (ka : α → Blk) (kb : β → Blk) : Nat → List α → Nat → List β → List (Option (Nat × α) × Option (Nat × β))
  | _, [], _, [] => []
  | i, x :: t, j, [] => (some (i, x), none) :: mrg ka kb (i + 1) t j []
  | i, [], j, y :: l => (none, some (j, y)) :: mrg ka kb i [] (j + 1) l
  | i, x :: t, j, y :: l =>
    if klt (ka x) (kb y) then (some (i, x), none) :: mrg ka kb (i + 1) t j (y :: l)
    else if ka x = kb y then (some (i, x), some (j, y)) :: mrg ka kb (i + 1) t (j + 1) l
    else (none, some (j, y)) :: mrg ka kb i (x :: t) (j + 1) l
termination_by _ t _ l => t.length + l.length
def atP (a : Option Addr) (k : Nat) : Option Addr := a.map (·.add k)
def encM {α β : Type} (a b : Option Addr) (sa sb : Nat) (p : Option (Nat × α) × Option (Nat × β)) : List Value :=
  [.pointer (p.1.bind fun q => atP a (q.1 * sa)), .pointer (p.2.bind fun q => atP b (q.1 * sb))]
theorem atP_some (g o k : Nat) : atP (some ⟨g, o, none⟩) k = some ⟨g, o + k, none⟩ := by simp [atP, addr_add]
theorem drop_cons {α : Type} {L T : List α} {h : α} {k : Nat} (e : h :: T = L.drop k) : k < L.length ∧ L[k]? = some h ∧ T = L.drop (k + 1) := by
  have h1 : k < L.length := by
    rcases Nat.lt_or_ge k L.length with h1 | h1
    · exact h1
    · rw [List.drop_of_length_le h1] at e; cases e
  rw [List.drop_eq_getElem_cons h1] at e
  simp only [List.cons.injEq] at e
  exact ⟨h1, by rw [List.getElem?_eq_getElem h1, ← e.1], e.2⟩
theorem rwAt.cells0 {L L' : List Assn} {x : PH} {g off i : Nat} {l : List RwV} (h : rwAt (some ⟨g, off, none⟩) l x) (p : Pick (exact x) L L') (hi : i < l.length) : CellsAt L g (off + i * 2 + 0 * 2) (l[i]).cells := h.cells p hi
theorem chAt.cells0 {L L' : List Assn} {x : PH} {g off i : Nat} {l : List ChV} (h : chAt (some ⟨g, off, none⟩) l x) (p : Pick (exact x) L L') (hi : i < l.length) : CellsAt L g (off + i * 3 + 0 * 3) (l[i]).cells := h.cells p hi
def cmpZ (a b : Blk) : Int := if klt a b then -1 else if a = b then 0 else 1
end Go.Cx
namespace Go.Proofs.YtlckhaodecdbbaaGreatDoor
open Go.Cx
attribute [local irreducible] Go.Cx.CX Go.Cx.CC Go.Cx.CQ Go.Cx.PS Go.Cx.Ctr Go.Cx.CH
set_option maxRecDepth 10000
theorem nan_c (a : Blk) : Ctr Tryz.prog 150 [sv a] [] (fun _ => True) (fun v M => v = .bool false ∧ M = []) := by
  refine Ctr.intro Tryz.func150 rfl Tryz.ntmps150 rfl fun x w hp => ?_
  refine wk ?_
  refine CX.ps ((PS.neqStr (a := a) (b := a) rfl rfl rfl).toF (fun h => h rfl)) ?_
  refine wk ?_
  ((apply CQ.end1; (· rfl); (· exact .tmp rfl)); (· exact ⟨rfl, rfl⟩); (· exact selA))
theorem cmp_c (a b : Blk) : Ctr Tryz.prog 110 [sv a, sv b] [] (fun _ => True) (fun v M => v = .int .i64 (cmpZ a b) ∧ M = []) := by
  refine Ctr.intro Tryz.func110 rfl Tryz.ntmps110 rfl fun x w hp => ?_
  refine wk ?_
  refine CX.callA (nan_c a) ?_
  rintro _ _ ⟨rfl, rfl⟩
  refine wk ?_
  refine CX.callA (nan_c b) ?_
  rintro _ _ ⟨rfl, rfl⟩
  by_cases h1 : klt a b = true
  · rw [show cmpZ a b = -1 by unfold cmpZ; rw [if_pos h1]]
    refine wk ?_
    refine CX.ps (PS.lssStr (a := a) (b := b) true h1) ?_
    refine wk ?_
    ((apply CQ.end1; (· rfl); (· exact .tmp rfl)); (· exact ⟨rfl, rfl⟩); (· exact selA))
  · have h1' : klt a b = false := by simpa using h1
    by_cases h2 : a = b
    · rw [show cmpZ a b = 0 by unfold cmpZ; rw [if_neg h1, if_pos h2]]
      refine wk ?_
      refine CX.ps (PS.lssStr (a := a) (b := b) false h1') ?_
      refine wk ?_
      refine CX.ps (PS.gtrStr (a := a) (b := b) false (by rw [h2, klt_irr])) ?_
      refine wk ?_
      ((apply CQ.end1; (· rfl); (· exact .tmp rfl)); (· exact ⟨rfl, rfl⟩); (· exact selA))
    · have h3 : klt b a = true := by
        rcases klt_tri a b with h | h | h
        · exact absurd h h1
        · exact absurd h h2
        · exact h
      rw [show cmpZ a b = 1 by unfold cmpZ; rw [if_neg h1, if_neg h2]]
      refine wk ?_
      refine CX.ps (PS.lssStr (a := a) (b := b) false h1') ?_
      refine wk ?_
      refine CX.ps (PS.gtrStr (a := a) (b := b) true h3) ?_
      refine wk ?_
      ((apply CQ.end1; (· rfl); (· exact .tmp rfl)); (· exact ⟨rfl, rfl⟩); (· exact selA))
theorem itC_c (t : List RwV) (l : List ChV) (ht : t.length ≤ 1073741824) (hl : l.length ≤ 1073741824) (a b : Option Addr) (ca cb' : Nat) (hca : t.length ≤ ca) (hcb : l.length ≤ cb') (b1 b2 b3 b4 : Nat) :
    Iter Tryz.prog 125 [.pointer (some ⟨b1, 0, none⟩), .pointer (some ⟨b2, 0, none⟩), .pointer (some ⟨b3, 0, none⟩), .pointer (some ⟨b4, 0, none⟩)]
      [bk b1 32 [.slice a t.length ca], bk b2 34 [.slice b l.length cb'], bk b3 134 [.func (.func 82) #[] #[]], bk b4 127 [.func (.func 83) #[] #[]]]
      (fun x => rwAt a t x ∧ chAt b l x) ((mrg rwKey chKey 0 t 0 l).map (encM a b 2 3)) := by
  refine Iter.intro Tryz.func125 rfl Tryz.ntmps125 rfl ?_
  rintro ly x I w ⟨hpa, hpb⟩ hY M0 hI0
  rw [List.length_map]
  generalize hL : mrg rwKey chKey 0 t 0 l = Lm at *
  refine wk ?_
  refine CC.loop (X := Nat × Nat × Option Addr × Option Addr × Nat × List Assn)
    (fun s => [(0, .func (.yield ly) #[] #[]), (1, .pointer (some ⟨b1, 0, none⟩)), (2, .pointer (some ⟨b2, 0, none⟩)), (3, .pointer (some ⟨b3, 0, none⟩)), (4, .pointer (some ⟨b4, 0, none⟩))])
    (fun s => [many s.2.2.2.2.2, bk b1 32 [.slice s.2.2.1 (t.length - s.1) (ca - s.1)], bk b2 34 [.slice s.2.2.2.1 (l.length - s.2.1) (cb' - s.2.1)], bk b3 134 [.func (.func 82) #[] #[]], bk b4 127 [.func (.func 83) #[] #[]], exact x])
    (fun s => s.1 ≤ t.length ∧ s.2.1 ≤ l.length ∧ (s.1 < t.length → s.2.2.1 = atP a (s.1 * 2)) ∧ (s.2.1 < l.length → s.2.2.2.1 = atP b (s.2.1 * 3)) ∧ s.2.2.2.2.1 ≤ Lm.length ∧ mrg rwKey chKey s.1 (t.drop s.1) s.2.1 (l.drop s.2.1) = Lm.drop s.2.2.2.2.1 ∧ I s.2.2.2.2.1 s.2.2.2.2.2)
    (fun s => (t.length - s.1) + (l.length - s.2.1)) (0, 0, a, b, 0, M0) ⟨Nat.zero_le _, Nat.zero_le _, fun h => by
      obtain ⟨g, o, rfl⟩ := rwAt_some hpa (by omega)
      simp [atP_some], fun h => by
      obtain ⟨g, o, rfl⟩ := chAt_some hpb (by omega)
      simp [atP_some], Nat.zero_le _, by simpa using hL, hI0⟩ ⟨rfl, rfl, rfl, rfl, rfl, trivial⟩ (by simp only [Nat.sub_zero]; exact selA) ?_
  rintro ⟨i, j, sa, sb, k, M⟩ ⟨hi, hj, hsa, hsb, hk, hm, hI⟩
  dsimp only at hi hj hsa hsb hk hm hI ⊢
  by_cases h1 : i < t.length
  · obtain ⟨ga, oa, rfl⟩ := rwAt_some hpa (by omega)
    obtain rfl := hsa h1
    rw [atP_some]
    have eA : t.drop i = t[i] :: t.drop (i + 1) := List.drop_eq_getElem_cons h1
    have nxA : i + 1 < t.length → some (⟨ga, if ca - i = 1 then oa + i * 2 else oa + i * 2 + 1 * 2, none⟩ : Addr) = atP (some ⟨ga, oa, none⟩) ((i + 1) * 2) := fun h => by
      rw [atP_some, if_neg (by omega)]; congr 2; omega
    by_cases h2 : j < l.length
    · obtain ⟨gb, ob', rfl⟩ := chAt_some hpb (by omega)
      obtain rfl := hsb h2
      rw [atP_some]
      have eB : l.drop j = l[j] :: l.drop (j + 1) := List.drop_eq_getElem_cons h2
      have nxB : j + 1 < l.length → some (⟨gb, if cb' - j = 1 then ob' + j * 3 else ob' + j * 3 + 1 * 3, none⟩ : Addr) = atP (some ⟨gb, ob', none⟩) ((j + 1) * 3) := fun h => by
        rw [atP_some, if_neg (by omega)]; congr 2; omega
      rw [eA, eB, mrg, ← eA, ← eB] at hm
      by_cases h3 : klt (rwKey t[i]) (chKey l[j]) = true
      · rw [if_pos h3] at hm
        obtain ⟨hk1, hk2, hm2⟩ := drop_cons hm
        have hz : cmpZ (t[i]).key (l[j]).key = -1 := if_pos h3
        refine wk ?_
        refine CC.draw [(0, 1), (1, 1), (2, 0), (3, 1), (5, 1), (6, 1), (7, 0), (8, 1), (4, 2), (9, 2), (10, 2), (11, 0)] mixed rfl (by kernel_rfl) (by kernel_rfl) [bk b1 32 [.slice (some ⟨ga, oa + i * 2, none⟩) (t.length - i) (ca - i)], bk b2 34 [.slice (some ⟨gb, ob' + j * 3, none⟩) (l.length - j) (cb' - j)], bk b3 134 [.func (.func 82) #[] #[]], bk b4 127 [.func (.func 83) #[] #[]], exact x] ?_
        refine hwk ?_
        refine CH.pure rfl (PS.indexAddr (j := 0) rfl rfl rfl rfl (by omega)) ?_
        (apply CH.read; (· rfl); (· apply PS.loadG (vs := (t[i]).cells); (· rfl); (· rfl); (· exact hpa.cells0 (by first | exact pickA | exact updA) h1); (· rfl)); (· exact selA))
        refine hwk ?_
        refine CH.pure rfl (PS.indexAddr (j := 0) rfl rfl rfl rfl (by omega)) ?_
        (apply CH.read; (· rfl); (· apply PS.loadG (vs := (l[j]).cells); (· rfl); (· rfl); (· exact hpb.cells0 (by first | exact pickA | exact updA) h2); (· rfl)); (· exact selA))
        refine CH.chain rfl fun K hK => ?_
        refine CX.callF (k1R_c t[i]) ?_
        rintro _ _ ⟨rfl, rfl⟩
        (refine CX.nil ?_; refine CQ.thenK ?_; apply hK; (· exact selA); clear hK K)
        refine CH.chain rfl fun K hK => ?_
        refine CX.callF (k1C_c l[j]) ?_
        rintro _ _ ⟨rfl, rfl⟩
        (refine CX.nil ?_; refine CQ.thenK ?_; apply hK; (· exact selA); clear hK K)
        refine CH.chain rfl fun K hK => ?_
        refine CX.callA (cmp_c (t[i]).key (l[j]).key) ?_
        rw [hz]
        rintro _ _ ⟨rfl, rfl⟩
        (refine CX.nil ?_; refine CQ.thenK ?_; apply hK; (· exact selA); clear hK K)
        refine hwk ?_
        refine wk ?_
        refine CC.draw [(0, 1), (1, 0), (2, 1), (3, 0), (4, 0), (5, 3)] mixed rfl (by kernel_rfl) (by kernel_rfl) [bk b1 32 [.slice (some ⟨ga, oa + i * 2, none⟩) (t.length - i) (ca - i)]] ?_
        refine hwk ?_
        refine CH.pure rfl (PS.indexAddr (j := 0) rfl rfl rfl rfl (by omega)) ?_
        refine hwk ?_
        refine CH.pure rfl (PS.sliceLo (l := 1) rfl rfl rfl rfl (by omega) (by omega)) ?_
        refine hwk ?_
        refine CH.tail rfl rfl fun K hK => ?_
        refine CX.storeA ?_
        (refine CX.nil ?_; refine CQ.thenK ?_; apply hK; clear hK K)
        refine hwk ?_
        refine wnk ?_
        refine CC.region ?_
        refine wnk ?_
        refine CC.regionI ?_
        refine CXI.ps ?_
        refine CXI.ps ?_
        refine CXI.ps ?_
        refine CXI.yieldM hY (k := k) (M := M) (vs := [.pointer (some ⟨ga, oa + i * 2, none⟩), .pointer none]) (by rw [List.getElem?_map, hk2]; simp [encM, atP_some]) hI ?_
        intro M' hI'
        refine CXI.ps ?_
        refine CXI.nil ?_
        refine wnk ?_
        exact CQ.round (x := (i, j, some ⟨ga, oa + i * 2, none⟩, some ⟨gb, ob' + j * 3, none⟩, k, M)) (i + 1, j, some ⟨ga, if ca - i = 1 then oa + i * 2 else oa + i * 2 + 1 * 2, none⟩, some ⟨gb, ob' + j * 3, none⟩, k + 1, M') ⟨by dsimp only; omega, by dsimp only; omega, nxA, fun _ => by rw [atP_some], by dsimp only; omega, hm2, hI'⟩ (by dsimp only; omega) ⟨rfl, rfl, rfl, rfl, rfl, trivial⟩ (by (try simp only [Nat.sub_sub]); exact selA)
      · rw [if_neg h3] at hm
        by_cases h4 : rwKey t[i] = chKey l[j]
        · rw [if_pos h4] at hm
          obtain ⟨hk1, hk2, hm2⟩ := drop_cons hm
          have hz : cmpZ (t[i]).key (l[j]).key = 0 := (if_neg h3).trans (if_pos h4)
          refine wk ?_
          refine CC.draw [(0, 1), (1, 1), (2, 0), (3, 1), (5, 1), (6, 1), (7, 0), (8, 1), (4, 2), (9, 2), (10, 2), (11, 0)] mixed rfl (by kernel_rfl) (by kernel_rfl) [bk b1 32 [.slice (some ⟨ga, oa + i * 2, none⟩) (t.length - i) (ca - i)], bk b2 34 [.slice (some ⟨gb, ob' + j * 3, none⟩) (l.length - j) (cb' - j)], bk b3 134 [.func (.func 82) #[] #[]], bk b4 127 [.func (.func 83) #[] #[]], exact x] ?_
          refine hwk ?_
          refine CH.pure rfl (PS.indexAddr (j := 0) rfl rfl rfl rfl (by omega)) ?_
          (apply CH.read; (· rfl); (· apply PS.loadG (vs := (t[i]).cells); (· rfl); (· rfl); (· exact hpa.cells0 (by first | exact pickA | exact updA) h1); (· rfl)); (· exact selA))
          refine hwk ?_
          refine CH.pure rfl (PS.indexAddr (j := 0) rfl rfl rfl rfl (by omega)) ?_
          (apply CH.read; (· rfl); (· apply PS.loadG (vs := (l[j]).cells); (· rfl); (· rfl); (· exact hpb.cells0 (by first | exact pickA | exact updA) h2); (· rfl)); (· exact selA))
          refine CH.chain rfl fun K hK => ?_
          refine CX.callF (k1R_c t[i]) ?_
          rintro _ _ ⟨rfl, rfl⟩
          (refine CX.nil ?_; refine CQ.thenK ?_; apply hK; (· exact selA); clear hK K)
          refine CH.chain rfl fun K hK => ?_
          refine CX.callF (k1C_c l[j]) ?_
          rintro _ _ ⟨rfl, rfl⟩
          (refine CX.nil ?_; refine CQ.thenK ?_; apply hK; (· exact selA); clear hK K)
          refine CH.chain rfl fun K hK => ?_
          refine CX.callA (cmp_c (t[i]).key (l[j]).key) ?_
          rw [hz]
          rintro _ _ ⟨rfl, rfl⟩
          (refine CX.nil ?_; refine CQ.thenK ?_; apply hK; (· exact selA); clear hK K)
          refine hwk ?_
          refine wk ?_
          refine CC.draw [(0, 1), (1, 0), (2, 1), (3, 0), (4, 0), (5, 3)] mixed rfl (by kernel_rfl) (by kernel_rfl) [bk b1 32 [.slice (some ⟨ga, oa + i * 2, none⟩) (t.length - i) (ca - i)]] ?_
          refine hwk ?_
          refine CH.pure rfl (PS.indexAddr (j := 0) rfl rfl rfl rfl (by omega)) ?_
          refine hwk ?_
          refine CH.pure rfl (PS.sliceLo (l := 1) rfl rfl rfl rfl (by omega) (by omega)) ?_
          refine hwk ?_
          refine CH.tail rfl rfl fun K hK => ?_
          refine CX.storeA ?_
          (refine CX.nil ?_; refine CQ.thenK ?_; apply hK; clear hK K)
          refine hwk ?_
          refine wnk ?_
          refine CC.region ?_
          refine wnk ?_
          refine CC.draw [(0, 1), (1, 0), (2, 1), (3, 0), (4, 0), (5, 3)] mixed rfl (by kernel_rfl) (by kernel_rfl) [bk b2 34 [.slice (some ⟨gb, ob' + j * 3, none⟩) (l.length - j) (cb' - j)]] ?_
          refine hwk ?_
          refine CH.pure rfl (PS.indexAddr (j := 0) rfl rfl rfl rfl (by omega)) ?_
          refine hwk ?_
          refine CH.pure rfl (PS.sliceLo (l := 1) rfl rfl rfl rfl (by omega) (by omega)) ?_
          refine hwk ?_
          refine CH.tail rfl rfl fun K hK => ?_
          refine CX.storeA ?_
          (refine CX.nil ?_; refine CQ.thenK ?_; apply hK; clear hK K)
          refine hwk ?_
          refine wnk ?_
          refine CC.regionI ?_
          refine CXI.ps ?_
          refine CXI.ps ?_
          refine CXI.ps ?_
          refine CXI.yieldM hY (k := k) (M := M) (vs := [.pointer (some ⟨ga, oa + i * 2, none⟩), .pointer (some ⟨gb, ob' + j * 3, none⟩)]) (by rw [List.getElem?_map, hk2]; simp [encM, atP_some]) hI ?_
          intro M' hI'
          refine CXI.ps ?_
          refine CXI.nil ?_
          refine wnk ?_
          exact CQ.round (x := (i, j, some ⟨ga, oa + i * 2, none⟩, some ⟨gb, ob' + j * 3, none⟩, k, M)) (i + 1, j + 1, some ⟨ga, if ca - i = 1 then oa + i * 2 else oa + i * 2 + 1 * 2, none⟩, some ⟨gb, if cb' - j = 1 then ob' + j * 3 else ob' + j * 3 + 1 * 3, none⟩, k + 1, M') ⟨by dsimp only; omega, by dsimp only; omega, nxA, nxB, by dsimp only; omega, hm2, hI'⟩ (by dsimp only; omega) ⟨rfl, rfl, rfl, rfl, rfl, trivial⟩ (by (try simp only [Nat.sub_sub]); exact selA)
        · rw [if_neg h4] at hm
          obtain ⟨hk1, hk2, hm2⟩ := drop_cons hm
          have hz : cmpZ (t[i]).key (l[j]).key = 1 := (if_neg h3).trans (if_neg h4)
          refine wk ?_
          refine CC.draw [(0, 1), (1, 1), (2, 0), (3, 1), (5, 1), (6, 1), (7, 0), (8, 1), (4, 2), (9, 2), (10, 2), (11, 0)] mixed rfl (by kernel_rfl) (by kernel_rfl) [bk b1 32 [.slice (some ⟨ga, oa + i * 2, none⟩) (t.length - i) (ca - i)], bk b2 34 [.slice (some ⟨gb, ob' + j * 3, none⟩) (l.length - j) (cb' - j)], bk b3 134 [.func (.func 82) #[] #[]], bk b4 127 [.func (.func 83) #[] #[]], exact x] ?_
          refine hwk ?_
          refine CH.pure rfl (PS.indexAddr (j := 0) rfl rfl rfl rfl (by omega)) ?_
          (apply CH.read; (· rfl); (· apply PS.loadG (vs := (t[i]).cells); (· rfl); (· rfl); (· exact hpa.cells0 (by first | exact pickA | exact updA) h1); (· rfl)); (· exact selA))
          refine hwk ?_
          refine CH.pure rfl (PS.indexAddr (j := 0) rfl rfl rfl rfl (by omega)) ?_
          (apply CH.read; (· rfl); (· apply PS.loadG (vs := (l[j]).cells); (· rfl); (· rfl); (· exact hpb.cells0 (by first | exact pickA | exact updA) h2); (· rfl)); (· exact selA))
          refine CH.chain rfl fun K hK => ?_
          refine CX.callF (k1R_c t[i]) ?_
          rintro _ _ ⟨rfl, rfl⟩
          (refine CX.nil ?_; refine CQ.thenK ?_; apply hK; (· exact selA); clear hK K)
          refine CH.chain rfl fun K hK => ?_
          refine CX.callF (k1C_c l[j]) ?_
          rintro _ _ ⟨rfl, rfl⟩
          (refine CX.nil ?_; refine CQ.thenK ?_; apply hK; (· exact selA); clear hK K)
          refine CH.chain rfl fun K hK => ?_
          refine CX.callA (cmp_c (t[i]).key (l[j]).key) ?_
          rw [hz]
          rintro _ _ ⟨rfl, rfl⟩
          (refine CX.nil ?_; refine CQ.thenK ?_; apply hK; (· exact selA); clear hK K)
          refine hwk ?_
          refine wk ?_
          refine CC.draw [(0, 1), (1, 0), (2, 1), (3, 0), (4, 0), (5, 3)] mixed rfl (by kernel_rfl) (by kernel_rfl) [bk b2 34 [.slice (some ⟨gb, ob' + j * 3, none⟩) (l.length - j) (cb' - j)]] ?_
          refine hwk ?_
          refine CH.pure rfl (PS.indexAddr (j := 0) rfl rfl rfl rfl (by omega)) ?_
          refine hwk ?_
          refine CH.pure rfl (PS.sliceLo (l := 1) rfl rfl rfl rfl (by omega) (by omega)) ?_
          refine hwk ?_
          refine CH.tail rfl rfl fun K hK => ?_
          refine CX.storeA ?_
          (refine CX.nil ?_; refine CQ.thenK ?_; apply hK; clear hK K)
          refine hwk ?_
          refine wnk ?_
          refine CC.regionI ?_
          refine CXI.ps ?_
          refine CXI.ps ?_
          refine CXI.ps ?_
          refine CXI.yieldM hY (k := k) (M := M) (vs := [.pointer none, .pointer (some ⟨gb, ob' + j * 3, none⟩)]) (by rw [List.getElem?_map, hk2]; simp [encM, atP_some]) hI ?_
          intro M' hI'
          refine CXI.ps ?_
          refine CXI.nil ?_
          refine wnk ?_
          exact CQ.round (x := (i, j, some ⟨ga, oa + i * 2, none⟩, some ⟨gb, ob' + j * 3, none⟩, k, M)) (i, j + 1, some ⟨ga, oa + i * 2, none⟩, some ⟨gb, if cb' - j = 1 then ob' + j * 3 else ob' + j * 3 + 1 * 3, none⟩, k + 1, M') ⟨by dsimp only; omega, by dsimp only; omega, (fun _ => by rw [atP_some]), nxB, by dsimp only; omega, hm2, hI'⟩ (by dsimp only; omega) ⟨rfl, rfl, rfl, rfl, rfl, trivial⟩ (by (try simp only [Nat.sub_sub]); exact selA)
    · obtain rfl : j = l.length := by omega
      rw [eA, List.drop_length, mrg] at hm
      obtain ⟨hk1, hk2, hm2⟩ := drop_cons hm
      refine wk ?_
      refine CC.draw [(0, 1), (1, 0), (2, 1), (3, 0), (4, 0), (5, 3)] mixed rfl (by kernel_rfl) (by kernel_rfl) [bk b1 32 [.slice (some ⟨ga, oa + i * 2, none⟩) (t.length - i) (ca - i)]] ?_
      refine hwk ?_
      refine CH.pure rfl (PS.indexAddr (j := 0) rfl rfl rfl rfl (by omega)) ?_
      refine hwk ?_
      refine CH.pure rfl (PS.sliceLo (l := 1) rfl rfl rfl rfl (by omega) (by omega)) ?_
      refine hwk ?_
      refine CH.tail rfl rfl fun K hK => ?_
      refine CX.storeA ?_
      (refine CX.nil ?_; refine CQ.thenK ?_; apply hK; clear hK K)
      refine hwk ?_
      refine wnk ?_
      refine CC.region ?_
      refine wnk ?_
      refine CC.regionI ?_
      refine CXI.ps ?_
      refine CXI.ps ?_
      refine CXI.ps ?_
      refine CXI.yieldM hY (k := k) (M := M) (vs := [.pointer (some ⟨ga, oa + i * 2, none⟩), .pointer none]) (by rw [List.getElem?_map, hk2]; simp [encM, atP_some]) hI ?_
      intro M' hI'
      refine CXI.ps ?_
      refine CXI.nil ?_
      refine wnk ?_
      exact CQ.round (x := (i, l.length, some ⟨ga, oa + i * 2, none⟩, sb, k, M)) (i + 1, l.length, some ⟨ga, if ca - i = 1 then oa + i * 2 else oa + i * 2 + 1 * 2, none⟩, sb, k + 1, M') ⟨by dsimp only; omega, by dsimp only; omega, nxA, (fun h => by dsimp only at h; omega), by dsimp only; omega, by dsimp only; rw [List.drop_length]; exact hm2, hI'⟩ (by dsimp only; omega) ⟨rfl, rfl, rfl, rfl, rfl, trivial⟩ (by (try simp only [Nat.sub_sub]); exact selA)
  · obtain rfl : i = t.length := by omega
    by_cases h2 : j < l.length
    · obtain ⟨gb, ob', rfl⟩ := chAt_some hpb (by omega)
      obtain rfl := hsb h2
      rw [atP_some]
      have eB : l.drop j = l[j] :: l.drop (j + 1) := List.drop_eq_getElem_cons h2
      have nxB : j + 1 < l.length → some (⟨gb, if cb' - j = 1 then ob' + j * 3 else ob' + j * 3 + 1 * 3, none⟩ : Addr) = atP (some ⟨gb, ob', none⟩) ((j + 1) * 3) := fun h => by
        rw [atP_some, if_neg (by omega)]; congr 2; omega
      rw [eB, List.drop_length, mrg] at hm
      obtain ⟨hk1, hk2, hm2⟩ := drop_cons hm
      refine wk ?_
      refine CC.draw [(0, 1), (1, 0), (2, 1), (3, 0), (4, 0), (5, 3)] mixed rfl (by kernel_rfl) (by kernel_rfl) [bk b2 34 [.slice (some ⟨gb, ob' + j * 3, none⟩) (l.length - j) (cb' - j)]] ?_
      refine hwk ?_
      refine CH.pure rfl (PS.indexAddr (j := 0) rfl rfl rfl rfl (by omega)) ?_
      refine hwk ?_
      refine CH.pure rfl (PS.sliceLo (l := 1) rfl rfl rfl rfl (by omega) (by omega)) ?_
      refine hwk ?_
      refine CH.tail rfl rfl fun K hK => ?_
      refine CX.storeA ?_
      (refine CX.nil ?_; refine CQ.thenK ?_; apply hK; clear hK K)
      refine hwk ?_
      refine wnk ?_
      refine CC.regionI ?_
      refine CXI.ps ?_
      refine CXI.ps ?_
      refine CXI.ps ?_
      refine CXI.yieldM hY (k := k) (M := M) (vs := [.pointer none, .pointer (some ⟨gb, ob' + j * 3, none⟩)]) (by rw [List.getElem?_map, hk2]; simp [encM, atP_some]) hI ?_
      intro M' hI'
      refine CXI.ps ?_
      refine CXI.nil ?_
      refine wnk ?_
      exact CQ.round (x := (t.length, j, sa, some ⟨gb, ob' + j * 3, none⟩, k, M)) (t.length, j + 1, sa, some ⟨gb, if cb' - j = 1 then ob' + j * 3 else ob' + j * 3 + 1 * 3, none⟩, k + 1, M') ⟨by dsimp only; omega, by dsimp only; omega, (fun h => by dsimp only at h; omega), nxB, by dsimp only; omega, by dsimp only; rw [List.drop_length]; exact hm2, hI'⟩ (by dsimp only; omega) ⟨rfl, rfl, rfl, rfl, rfl, trivial⟩ (by (try simp only [Nat.sub_sub]); exact selA)
    · obtain rfl : j = l.length := by omega
      rw [List.drop_length, List.drop_length, mrg] at hm
      have : Lm.length ≤ k := by
        rcases Nat.lt_or_ge k Lm.length with h | h
        · rw [List.drop_eq_getElem_cons h] at hm; cases hm
        · exact h
      refine wk ?_
      exact CQ.endIter rfl hI (by omega)
theorem itR_c (t : List RwV) (l : List RwV) (ht : t.length ≤ 1073741824) (hl : l.length ≤ 1073741824) (a b : Option Addr) (ca cb' : Nat) (hca : t.length ≤ ca) (hcb : l.length ≤ cb') (b1 b2 b3 b4 : Nat) :
    Iter Tryz.prog 180 [.pointer (some ⟨b1, 0, none⟩), .pointer (some ⟨b2, 0, none⟩), .pointer (some ⟨b3, 0, none⟩), .pointer (some ⟨b4, 0, none⟩)]
      [bk b1 32 [.slice a t.length ca], bk b2 32 [.slice b l.length cb'], bk b3 134 [.func (.func 82) #[] #[]], bk b4 134 [.func (.func 82) #[] #[]]]
      (fun x => rwAt a t x ∧ rwAt b l x) ((mrg rwKey rwKey 0 t 0 l).map (encM a b 2 2)) := by
  refine Iter.intro Tryz.func180 rfl Tryz.ntmps180 rfl ?_
  rintro ly x I w ⟨hpa, hpb⟩ hY M0 hI0
  rw [List.length_map]
  generalize hL : mrg rwKey rwKey 0 t 0 l = Lm at *
  refine wk ?_
  refine CC.loop (X := Nat × Nat × Option Addr × Option Addr × Nat × List Assn)
    (fun s => [(0, .func (.yield ly) #[] #[]), (1, .pointer (some ⟨b1, 0, none⟩)), (2, .pointer (some ⟨b2, 0, none⟩)), (3, .pointer (some ⟨b3, 0, none⟩)), (4, .pointer (some ⟨b4, 0, none⟩))])
    (fun s => [many s.2.2.2.2.2, bk b1 32 [.slice s.2.2.1 (t.length - s.1) (ca - s.1)], bk b2 32 [.slice s.2.2.2.1 (l.length - s.2.1) (cb' - s.2.1)], bk b3 134 [.func (.func 82) #[] #[]], bk b4 134 [.func (.func 82) #[] #[]], exact x])
    (fun s => s.1 ≤ t.length ∧ s.2.1 ≤ l.length ∧ (s.1 < t.length → s.2.2.1 = atP a (s.1 * 2)) ∧ (s.2.1 < l.length → s.2.2.2.1 = atP b (s.2.1 * 2)) ∧ s.2.2.2.2.1 ≤ Lm.length ∧ mrg rwKey rwKey s.1 (t.drop s.1) s.2.1 (l.drop s.2.1) = Lm.drop s.2.2.2.2.1 ∧ I s.2.2.2.2.1 s.2.2.2.2.2)
    (fun s => (t.length - s.1) + (l.length - s.2.1)) (0, 0, a, b, 0, M0) ⟨Nat.zero_le _, Nat.zero_le _, fun h => by
      obtain ⟨g, o, rfl⟩ := rwAt_some hpa (by omega)
      simp [atP_some], fun h => by
      obtain ⟨g, o, rfl⟩ := rwAt_some hpb (by omega)
      simp [atP_some], Nat.zero_le _, by simpa using hL, hI0⟩ ⟨rfl, rfl, rfl, rfl, rfl, trivial⟩ (by simp only [Nat.sub_zero]; exact selA) ?_
  rintro ⟨i, j, sa, sb, k, M⟩ ⟨hi, hj, hsa, hsb, hk, hm, hI⟩
  dsimp only at hi hj hsa hsb hk hm hI ⊢
  by_cases h1 : i < t.length
  · obtain ⟨ga, oa, rfl⟩ := rwAt_some hpa (by omega)
    obtain rfl := hsa h1
    rw [atP_some]
    have eA : t.drop i = t[i] :: t.drop (i + 1) := List.drop_eq_getElem_cons h1
    have nxA : i + 1 < t.length → some (⟨ga, if ca - i = 1 then oa + i * 2 else oa + i * 2 + 1 * 2, none⟩ : Addr) = atP (some ⟨ga, oa, none⟩) ((i + 1) * 2) := fun h => by
      rw [atP_some, if_neg (by omega)]; congr 2; omega
    by_cases h2 : j < l.length
    · obtain ⟨gb, ob', rfl⟩ := rwAt_some hpb (by omega)
      obtain rfl := hsb h2
      rw [atP_some]
      have eB : l.drop j = l[j] :: l.drop (j + 1) := List.drop_eq_getElem_cons h2
      have nxB : j + 1 < l.length → some (⟨gb, if cb' - j = 1 then ob' + j * 2 else ob' + j * 2 + 1 * 2, none⟩ : Addr) = atP (some ⟨gb, ob', none⟩) ((j + 1) * 2) := fun h => by
        rw [atP_some, if_neg (by omega)]; congr 2; omega
      rw [eA, eB, mrg, ← eA, ← eB] at hm
      by_cases h3 : klt (rwKey t[i]) (rwKey l[j]) = true
      · rw [if_pos h3] at hm
        obtain ⟨hk1, hk2, hm2⟩ := drop_cons hm
        have hz : cmpZ (t[i]).key (l[j]).key = -1 := if_pos h3
        refine wk ?_
        refine CC.draw [(0, 1), (1, 1), (2, 0), (3, 1), (5, 1), (6, 1), (7, 0), (8, 1), (4, 2), (9, 2), (10, 2), (11, 0)] mixed rfl (by kernel_rfl) (by kernel_rfl) [bk b1 32 [.slice (some ⟨ga, oa + i * 2, none⟩) (t.length - i) (ca - i)], bk b2 32 [.slice (some ⟨gb, ob' + j * 2, none⟩) (l.length - j) (cb' - j)], bk b3 134 [.func (.func 82) #[] #[]], bk b4 134 [.func (.func 82) #[] #[]], exact x] ?_
        refine hwk ?_
        refine CH.pure rfl (PS.indexAddr (j := 0) rfl rfl rfl rfl (by omega)) ?_
        (apply CH.read; (· rfl); (· apply PS.loadG (vs := (t[i]).cells); (· rfl); (· rfl); (· exact hpa.cells0 (by first | exact pickA | exact updA) h1); (· rfl)); (· exact selA))
        refine hwk ?_
        refine CH.pure rfl (PS.indexAddr (j := 0) rfl rfl rfl rfl (by omega)) ?_
        (apply CH.read; (· rfl); (· apply PS.loadG (vs := (l[j]).cells); (· rfl); (· rfl); (· exact hpb.cells0 (by first | exact pickA | exact updA) h2); (· rfl)); (· exact selA))
        refine CH.chain rfl fun K hK => ?_
        refine CX.callF (k1R_c t[i]) ?_
        rintro _ _ ⟨rfl, rfl⟩
        (refine CX.nil ?_; refine CQ.thenK ?_; apply hK; (· exact selA); clear hK K)
        refine CH.chain rfl fun K hK => ?_
        refine CX.callF (k1R_c l[j]) ?_
        rintro _ _ ⟨rfl, rfl⟩
        (refine CX.nil ?_; refine CQ.thenK ?_; apply hK; (· exact selA); clear hK K)
        refine CH.chain rfl fun K hK => ?_
        refine CX.callA (cmp_c (t[i]).key (l[j]).key) ?_
        rw [hz]
        rintro _ _ ⟨rfl, rfl⟩
        (refine CX.nil ?_; refine CQ.thenK ?_; apply hK; (· exact selA); clear hK K)
        refine hwk ?_
        refine wk ?_
        refine CC.draw [(0, 1), (1, 0), (2, 1), (3, 0), (4, 0), (5, 3)] mixed rfl (by kernel_rfl) (by kernel_rfl) [bk b1 32 [.slice (some ⟨ga, oa + i * 2, none⟩) (t.length - i) (ca - i)]] ?_
        refine hwk ?_
        refine CH.pure rfl (PS.indexAddr (j := 0) rfl rfl rfl rfl (by omega)) ?_
        refine hwk ?_
        refine CH.pure rfl (PS.sliceLo (l := 1) rfl rfl rfl rfl (by omega) (by omega)) ?_
        refine hwk ?_
        refine CH.tail rfl rfl fun K hK => ?_
        refine CX.storeA ?_
        (refine CX.nil ?_; refine CQ.thenK ?_; apply hK; clear hK K)
        refine hwk ?_
        refine wnk ?_
        refine CC.region ?_
        refine wnk ?_
        refine CC.regionI ?_
        refine CXI.ps ?_
        refine CXI.ps ?_
        refine CXI.ps ?_
        refine CXI.yieldM hY (k := k) (M := M) (vs := [.pointer (some ⟨ga, oa + i * 2, none⟩), .pointer none]) (by rw [List.getElem?_map, hk2]; simp [encM, atP_some]) hI ?_
        intro M' hI'
        refine CXI.ps ?_
        refine CXI.nil ?_
        refine wnk ?_
        exact CQ.round (x := (i, j, some ⟨ga, oa + i * 2, none⟩, some ⟨gb, ob' + j * 2, none⟩, k, M)) (i + 1, j, some ⟨ga, if ca - i = 1 then oa + i * 2 else oa + i * 2 + 1 * 2, none⟩, some ⟨gb, ob' + j * 2, none⟩, k + 1, M') ⟨by dsimp only; omega, by dsimp only; omega, nxA, fun _ => by rw [atP_some], by dsimp only; omega, hm2, hI'⟩ (by dsimp only; omega) ⟨rfl, rfl, rfl, rfl, rfl, trivial⟩ (by (try simp only [Nat.sub_sub]); exact selA)
      · rw [if_neg h3] at hm
        by_cases h4 : rwKey t[i] = rwKey l[j]
        · rw [if_pos h4] at hm
          obtain ⟨hk1, hk2, hm2⟩ := drop_cons hm
          have hz : cmpZ (t[i]).key (l[j]).key = 0 := (if_neg h3).trans (if_pos h4)
          refine wk ?_
          refine CC.draw [(0, 1), (1, 1), (2, 0), (3, 1), (5, 1), (6, 1), (7, 0), (8, 1), (4, 2), (9, 2), (10, 2), (11, 0)] mixed rfl (by kernel_rfl) (by kernel_rfl) [bk b1 32 [.slice (some ⟨ga, oa + i * 2, none⟩) (t.length - i) (ca - i)], bk b2 32 [.slice (some ⟨gb, ob' + j * 2, none⟩) (l.length - j) (cb' - j)], bk b3 134 [.func (.func 82) #[] #[]], bk b4 134 [.func (.func 82) #[] #[]], exact x] ?_
          refine hwk ?_
          refine CH.pure rfl (PS.indexAddr (j := 0) rfl rfl rfl rfl (by omega)) ?_
          (apply CH.read; (· rfl); (· apply PS.loadG (vs := (t[i]).cells); (· rfl); (· rfl); (· exact hpa.cells0 (by first | exact pickA | exact updA) h1); (· rfl)); (· exact selA))
          refine hwk ?_
          refine CH.pure rfl (PS.indexAddr (j := 0) rfl rfl rfl rfl (by omega)) ?_
          (apply CH.read; (· rfl); (· apply PS.loadG (vs := (l[j]).cells); (· rfl); (· rfl); (· exact hpb.cells0 (by first | exact pickA | exact updA) h2); (· rfl)); (· exact selA))
          refine CH.chain rfl fun K hK => ?_
          refine CX.callF (k1R_c t[i]) ?_
          rintro _ _ ⟨rfl, rfl⟩
          (refine CX.nil ?_; refine CQ.thenK ?_; apply hK; (· exact selA); clear hK K)
          refine CH.chain rfl fun K hK => ?_
          refine CX.callF (k1R_c l[j]) ?_
          rintro _ _ ⟨rfl, rfl⟩
          (refine CX.nil ?_; refine CQ.thenK ?_; apply hK; (· exact selA); clear hK K)
          refine CH.chain rfl fun K hK => ?_
          refine CX.callA (cmp_c (t[i]).key (l[j]).key) ?_
          rw [hz]
          rintro _ _ ⟨rfl, rfl⟩
          (refine CX.nil ?_; refine CQ.thenK ?_; apply hK; (· exact selA); clear hK K)
          refine hwk ?_
          refine wk ?_
          refine CC.draw [(0, 1), (1, 0), (2, 1), (3, 0), (4, 0), (5, 3)] mixed rfl (by kernel_rfl) (by kernel_rfl) [bk b1 32 [.slice (some ⟨ga, oa + i * 2, none⟩) (t.length - i) (ca - i)]] ?_
          refine hwk ?_
          refine CH.pure rfl (PS.indexAddr (j := 0) rfl rfl rfl rfl (by omega)) ?_
          refine hwk ?_
          refine CH.pure rfl (PS.sliceLo (l := 1) rfl rfl rfl rfl (by omega) (by omega)) ?_
          refine hwk ?_
          refine CH.tail rfl rfl fun K hK => ?_
          refine CX.storeA ?_
          (refine CX.nil ?_; refine CQ.thenK ?_; apply hK; clear hK K)
          refine hwk ?_
          refine wnk ?_
          refine CC.region ?_
          refine wnk ?_
          refine CC.draw [(0, 1), (1, 0), (2, 1), (3, 0), (4, 0), (5, 3)] mixed rfl (by kernel_rfl) (by kernel_rfl) [bk b2 32 [.slice (some ⟨gb, ob' + j * 2, none⟩) (l.length - j) (cb' - j)]] ?_
          refine hwk ?_
          refine CH.pure rfl (PS.indexAddr (j := 0) rfl rfl rfl rfl (by omega)) ?_
          refine hwk ?_
          refine CH.pure rfl (PS.sliceLo (l := 1) rfl rfl rfl rfl (by omega) (by omega)) ?_
          refine hwk ?_
          refine CH.tail rfl rfl fun K hK => ?_
          refine CX.storeA ?_
          (refine CX.nil ?_; refine CQ.thenK ?_; apply hK; clear hK K)
          refine hwk ?_
          refine wnk ?_
          refine CC.regionI ?_
          refine CXI.ps ?_
          refine CXI.ps ?_
          refine CXI.ps ?_
          refine CXI.yieldM hY (k := k) (M := M) (vs := [.pointer (some ⟨ga, oa + i * 2, none⟩), .pointer (some ⟨gb, ob' + j * 2, none⟩)]) (by rw [List.getElem?_map, hk2]; simp [encM, atP_some]) hI ?_
          intro M' hI'
          refine CXI.ps ?_
          refine CXI.nil ?_
          refine wnk ?_
          exact CQ.round (x := (i, j, some ⟨ga, oa + i * 2, none⟩, some ⟨gb, ob' + j * 2, none⟩, k, M)) (i + 1, j + 1, some ⟨ga, if ca - i = 1 then oa + i * 2 else oa + i * 2 + 1 * 2, none⟩, some ⟨gb, if cb' - j = 1 then ob' + j * 2 else ob' + j * 2 + 1 * 2, none⟩, k + 1, M') ⟨by dsimp only; omega, by dsimp only; omega, nxA, nxB, by dsimp only; omega, hm2, hI'⟩ (by dsimp only; omega) ⟨rfl, rfl, rfl, rfl, rfl, trivial⟩ (by (try simp only [Nat.sub_sub]); exact selA)
        · rw [if_neg h4] at hm
          obtain ⟨hk1, hk2, hm2⟩ := drop_cons hm
          have hz : cmpZ (t[i]).key (l[j]).key = 1 := (if_neg h3).trans (if_neg h4)
          refine wk ?_
          refine CC.draw [(0, 1), (1, 1), (2, 0), (3, 1), (5, 1), (6, 1), (7, 0), (8, 1), (4, 2), (9, 2), (10, 2), (11, 0)] mixed rfl (by kernel_rfl) (by kernel_rfl) [bk b1 32 [.slice (some ⟨ga, oa + i * 2, none⟩) (t.length - i) (ca - i)], bk b2 32 [.slice (some ⟨gb, ob' + j * 2, none⟩) (l.length - j) (cb' - j)], bk b3 134 [.func (.func 82) #[] #[]], bk b4 134 [.func (.func 82) #[] #[]], exact x] ?_
          refine hwk ?_
          refine CH.pure rfl (PS.indexAddr (j := 0) rfl rfl rfl rfl (by omega)) ?_
          (apply CH.read; (· rfl); (· apply PS.loadG (vs := (t[i]).cells); (· rfl); (· rfl); (· exact hpa.cells0 (by first | exact pickA | exact updA) h1); (· rfl)); (· exact selA))
          refine hwk ?_
          refine CH.pure rfl (PS.indexAddr (j := 0) rfl rfl rfl rfl (by omega)) ?_
          (apply CH.read; (· rfl); (· apply PS.loadG (vs := (l[j]).cells); (· rfl); (· rfl); (· exact hpb.cells0 (by first | exact pickA | exact updA) h2); (· rfl)); (· exact selA))
          refine CH.chain rfl fun K hK => ?_
          refine CX.callF (k1R_c t[i]) ?_
          rintro _ _ ⟨rfl, rfl⟩
          (refine CX.nil ?_; refine CQ.thenK ?_; apply hK; (· exact selA); clear hK K)
          refine CH.chain rfl fun K hK => ?_
          refine CX.callF (k1R_c l[j]) ?_
          rintro _ _ ⟨rfl, rfl⟩
          (refine CX.nil ?_; refine CQ.thenK ?_; apply hK; (· exact selA); clear hK K)
          refine CH.chain rfl fun K hK => ?_
          refine CX.callA (cmp_c (t[i]).key (l[j]).key) ?_
          rw [hz]
          rintro _ _ ⟨rfl, rfl⟩
          (refine CX.nil ?_; refine CQ.thenK ?_; apply hK; (· exact selA); clear hK K)
          refine hwk ?_
          refine wk ?_
          refine CC.draw [(0, 1), (1, 0), (2, 1), (3, 0), (4, 0), (5, 3)] mixed rfl (by kernel_rfl) (by kernel_rfl) [bk b2 32 [.slice (some ⟨gb, ob' + j * 2, none⟩) (l.length - j) (cb' - j)]] ?_
          refine hwk ?_
          refine CH.pure rfl (PS.indexAddr (j := 0) rfl rfl rfl rfl (by omega)) ?_
          refine hwk ?_
          refine CH.pure rfl (PS.sliceLo (l := 1) rfl rfl rfl rfl (by omega) (by omega)) ?_
          refine hwk ?_
          refine CH.tail rfl rfl fun K hK => ?_
          refine CX.storeA ?_
          (refine CX.nil ?_; refine CQ.thenK ?_; apply hK; clear hK K)
          refine hwk ?_
          refine wnk ?_
          refine CC.regionI ?_
          refine CXI.ps ?_
          refine CXI.ps ?_
          refine CXI.ps ?_
          refine CXI.yieldM hY (k := k) (M := M) (vs := [.pointer none, .pointer (some ⟨gb, ob' + j * 2, none⟩)]) (by rw [List.getElem?_map, hk2]; simp [encM, atP_some]) hI ?_
          intro M' hI'
          refine CXI.ps ?_
          refine CXI.nil ?_
          refine wnk ?_
          exact CQ.round (x := (i, j, some ⟨ga, oa + i * 2, none⟩, some ⟨gb, ob' + j * 2, none⟩, k, M)) (i, j + 1, some ⟨ga, oa + i * 2, none⟩, some ⟨gb, if cb' - j = 1 then ob' + j * 2 else ob' + j * 2 + 1 * 2, none⟩, k + 1, M') ⟨by dsimp only; omega, by dsimp only; omega, (fun _ => by rw [atP_some]), nxB, by dsimp only; omega, hm2, hI'⟩ (by dsimp only; omega) ⟨rfl, rfl, rfl, rfl, rfl, trivial⟩ (by (try simp only [Nat.sub_sub]); exact selA)
    · obtain rfl : j = l.length := by omega
      rw [eA, List.drop_length, mrg] at hm
      obtain ⟨hk1, hk2, hm2⟩ := drop_cons hm
      refine wk ?_
      refine CC.draw [(0, 1), (1, 0), (2, 1), (3, 0), (4, 0), (5, 3)] mixed rfl (by kernel_rfl) (by kernel_rfl) [bk b1 32 [.slice (some ⟨ga, oa + i * 2, none⟩) (t.length - i) (ca - i)]] ?_
      refine hwk ?_
      refine CH.pure rfl (PS.indexAddr (j := 0) rfl rfl rfl rfl (by omega)) ?_
      refine hwk ?_
      refine CH.pure rfl (PS.sliceLo (l := 1) rfl rfl rfl rfl (by omega) (by omega)) ?_
      refine hwk ?_
      refine CH.tail rfl rfl fun K hK => ?_
      refine CX.storeA ?_
      (refine CX.nil ?_; refine CQ.thenK ?_; apply hK; clear hK K)
      refine hwk ?_
      refine wnk ?_
      refine CC.region ?_
      refine wnk ?_
      refine CC.regionI ?_
      refine CXI.ps ?_
      refine CXI.ps ?_
      refine CXI.ps ?_
      refine CXI.yieldM hY (k := k) (M := M) (vs := [.pointer (some ⟨ga, oa + i * 2, none⟩), .pointer none]) (by rw [List.getElem?_map, hk2]; simp [encM, atP_some]) hI ?_
      intro M' hI'
      refine CXI.ps ?_
      refine CXI.nil ?_
      refine wnk ?_
      exact CQ.round (x := (i, l.length, some ⟨ga, oa + i * 2, none⟩, sb, k, M)) (i + 1, l.length, some ⟨ga, if ca - i = 1 then oa + i * 2 else oa + i * 2 + 1 * 2, none⟩, sb, k + 1, M') ⟨by dsimp only; omega, by dsimp only; omega, nxA, (fun h => by dsimp only at h; omega), by dsimp only; omega, by dsimp only; rw [List.drop_length]; exact hm2, hI'⟩ (by dsimp only; omega) ⟨rfl, rfl, rfl, rfl, rfl, trivial⟩ (by (try simp only [Nat.sub_sub]); exact selA)
  · obtain rfl : i = t.length := by omega
    by_cases h2 : j < l.length
    · obtain ⟨gb, ob', rfl⟩ := rwAt_some hpb (by omega)
      obtain rfl := hsb h2
      rw [atP_some]
      have eB : l.drop j = l[j] :: l.drop (j + 1) := List.drop_eq_getElem_cons h2
      have nxB : j + 1 < l.length → some (⟨gb, if cb' - j = 1 then ob' + j * 2 else ob' + j * 2 + 1 * 2, none⟩ : Addr) = atP (some ⟨gb, ob', none⟩) ((j + 1) * 2) := fun h => by
        rw [atP_some, if_neg (by omega)]; congr 2; omega
      rw [eB, List.drop_length, mrg] at hm
      obtain ⟨hk1, hk2, hm2⟩ := drop_cons hm
      refine wk ?_
      refine CC.draw [(0, 1), (1, 0), (2, 1), (3, 0), (4, 0), (5, 3)] mixed rfl (by kernel_rfl) (by kernel_rfl) [bk b2 32 [.slice (some ⟨gb, ob' + j * 2, none⟩) (l.length - j) (cb' - j)]] ?_
      refine hwk ?_
      refine CH.pure rfl (PS.indexAddr (j := 0) rfl rfl rfl rfl (by omega)) ?_
      refine hwk ?_
      refine CH.pure rfl (PS.sliceLo (l := 1) rfl rfl rfl rfl (by omega) (by omega)) ?_
      refine hwk ?_
      refine CH.tail rfl rfl fun K hK => ?_
      refine CX.storeA ?_
      (refine CX.nil ?_; refine CQ.thenK ?_; apply hK; clear hK K)
      refine hwk ?_
      refine wnk ?_
      refine CC.regionI ?_
      refine CXI.ps ?_
      refine CXI.ps ?_
      refine CXI.ps ?_
      refine CXI.yieldM hY (k := k) (M := M) (vs := [.pointer none, .pointer (some ⟨gb, ob' + j * 2, none⟩)]) (by rw [List.getElem?_map, hk2]; simp [encM, atP_some]) hI ?_
      intro M' hI'
      refine CXI.ps ?_
      refine CXI.nil ?_
      refine wnk ?_
      exact CQ.round (x := (t.length, j, sa, some ⟨gb, ob' + j * 2, none⟩, k, M)) (t.length, j + 1, sa, some ⟨gb, if cb' - j = 1 then ob' + j * 2 else ob' + j * 2 + 1 * 2, none⟩, k + 1, M') ⟨by dsimp only; omega, by dsimp only; omega, (fun h => by dsimp only at h; omega), nxB, by dsimp only; omega, by dsimp only; rw [List.drop_length]; exact hm2, hI'⟩ (by dsimp only; omega) ⟨rfl, rfl, rfl, rfl, rfl, trivial⟩ (by (try simp only [Nat.sub_sub]); exact selA)
    · obtain rfl : j = l.length := by omega
      rw [List.drop_length, List.drop_length, mrg] at hm
      have : Lm.length ≤ k := by
        rcases Nat.lt_or_ge k Lm.length with h | h
        · rw [List.drop_eq_getElem_cons h] at hm; cases hm
        · exact h
      refine wk ?_
      exact CQ.endIter rfl hI (by omega)
end Go.Proofs.YtlckhaodecdbbaaGreatDoor
