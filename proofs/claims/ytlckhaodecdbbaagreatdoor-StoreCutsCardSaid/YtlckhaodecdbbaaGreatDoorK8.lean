/- Part K8: Sy, Sz, Sv, L9c. -/
import Derived.Test.YtlckhaodecdbbaaGreatDoorK7
import Derived.Test.YtlckhaodecdbbaaGreatDoorK6
set_option linter.unusedVariables false
set_option linter.unusedSimpArgs false
/-! ref 08: which rows and changes may be, in the program. -/
namespace Go.Cx
theorem mayR_of {l : List RwV} (h1 : ∀ i (h : i < l.length), okR (l[i]).m) (h2 : ∀ j (h : j + 1 < l.length), klt (rwKey (l[j]'(by omega))) (rwKey l[j + 1]) = true) : MayR (l.map RwV.m) :=
  ⟨(risR_iff l).2 (pw_adj rwKey l h2), fun c hc => by
    obtain ⟨r, hr, rfl⟩ := List.mem_map.1 hc
    obtain ⟨i, hi, rfl⟩ := List.getElem_of_mem hr
    exact h1 i hi⟩
theorem mayR_ok {l : List RwV} (h : MayR (l.map RwV.m)) (i : Nat) (hi : i < l.length) : okR (l[i]).m := h.2 _ (List.mem_map_of_mem (List.getElem_mem hi))
theorem mayR_adj {l : List RwV} (h : MayR (l.map RwV.m)) (j : Nat) (hj : j + 1 < l.length) : klt (rwKey (l[j]'(by omega))) (rwKey l[j + 1]) = true := adj_pw rwKey ((risR_iff l).1 h.1) j hj
theorem mayC_of {l : List ChV} (h1 : ∀ i (h : i < l.length), (l[i]).m.ok) (h2 : ∀ j (h : j + 1 < l.length), klt (chKey (l[j]'(by omega))) (chKey l[j + 1]) = true) : MayC (l.map ChV.m) :=
  ⟨(risC_iff l).2 (pw_adj chKey l h2), fun c hc => by
    obtain ⟨r, hr, rfl⟩ := List.mem_map.1 hc
    obtain ⟨i, hi, rfl⟩ := List.getElem_of_mem hr
    exact h1 i hi⟩
theorem mayC_ok {l : List ChV} (h : MayC (l.map ChV.m)) (i : Nat) (hi : i < l.length) : (l[i]).m.ok := h.2 _ (List.mem_map_of_mem (List.getElem_mem hi))
theorem mayC_adj {l : List ChV} (h : MayC (l.map ChV.m)) (j : Nat) (hj : j + 1 < l.length) : klt (chKey (l[j]'(by omega))) (chKey l[j + 1]) = true := adj_pw chKey ((risC_iff l).1 h.1) j hj
end Go.Cx
namespace Go.Proofs.YtlckhaodecdbbaaGreatDoor
open Go.Cx
attribute [local irreducible] Go.Cx.CX Go.Cx.CC Go.Cx.CQ Go.Cx.PS Go.Cx.Ctr Go.Cx.CH
set_option maxRecDepth 10000
theorem r8may_c (l : List RwV) (hl : l.length ≤ 1073741824) (a : Option Addr) (c : Nat) : Ctr Tryz.prog 38 [.slice a l.length c] [] (fun x => rwAt a l x) (fun v M => v = .bool (decide (MayR (l.map RwV.m))) ∧ M = []) := by
  refine Ctr.intro Tryz.func38 rfl Tryz.ntmps38 rfl fun x w hp => ?_
  refine wk ?_
  refine CC.loop (X := Nat) (fun i => [(3, .int .i64 (i : Int)), (0, .slice a l.length c)]) (fun i => [exact x])
    (fun i => i ≤ l.length ∧ (∀ j (h : j < l.length), j < i → okR (l[j]).m) ∧ ∀ j (h : j + 1 < l.length), j + 1 < i → klt (rwKey (l[j]'(by omega))) (rwKey l[j + 1]) = true) (fun i => l.length - i) 0 ⟨Nat.zero_le _, fun j h h0 => by omega, fun j h h0 => by omega⟩ ⟨rfl, rfl, trivial⟩ (by exact selA) ?_
  rintro i ⟨hi, hok, hadj⟩
  by_cases h1 : i < l.length
  rotate_left
  · rw [decide_eq_true (mayR_of (fun j h => hok j h (by omega)) fun j h => hadj j h (by omega))]
    refine wk ?_
    ((apply CQ.end1; (· rfl); (· exact .tmp rfl)); (· exact ⟨rfl, rfl⟩); (· exact selA))
  obtain ⟨g, off, rfl⟩ := rwAt_some hp (by omega)
  by_cases k1 : 1 ≤ (l[i]).key.length ∧ (l[i]).key.length ≤ 16
  rotate_left
  · rw [decide_eq_false (fun h => k1 ⟨(mayR_ok h i h1).1, (mayR_ok h i h1).2.1⟩)]
    refine wk ?_
    refine CC.draw [(0, 0), (1, 0), (2, 0), (3, 0), (4, 1), (5, 2), (6, 0), (7, 0), (8, 0), (9, 0), (10, 0), (11, 0), (12, 1), (13, 0), (14, 0), (15, 0), (16, 0), (17, 0), (18, 0), (19, 0), (20, 0), (21, 0), (22, 0), (23, 0), (24, 0), (25, 1), (26, 0), (27, 0), (28, 0), (29, 0), (30, 1), (31, 0), (32, 0), (33, 0)] mixed rfl (by kernel_rfl) (by kernel_rfl) [exact x] ?_
    refine hwk ?_
    refine CH.pure rfl (PS.indexAddr (j := i) rfl rfl rfl rfl h1) ?_
    refine hwk ?_
    (apply CH.read; (· rfl); (· apply PS.load (v := sv (l[i]).key); (· rfl); (· rfl); (· exact hp.cell (by first | exact pickA | exact updA) h1 0 rfl)); (· exact selA))
    refine CH.chain rfl fun K hK => ?_
    refine CX.callA (r8key_c (l[i]).key) ?_
    rw [decide_eq_false k1]
    rintro _ _ ⟨rfl, rfl⟩
    (refine CX.nil ?_; refine CQ.thenK ?_; apply hK; (· exact selA); clear hK K)
    refine hwk ?_
    refine wk ?_
    ((apply CQ.end1; (· rfl); (· exact .tmp rfl)); (· exact ⟨rfl, rfl⟩); (· exact selA))
  by_cases k2 : (l[i]).s.b.length ≤ 1048576
  rotate_left
  · rw [decide_eq_false (fun h => k2 (mayR_ok h i h1).2.2)]
    have k2' : 1048576 < (l[i]).s.b.length := by omega
    refine wk ?_
    refine CC.draw [(0, 0), (1, 0), (2, 0), (3, 0), (4, 1), (5, 2), (6, 0), (7, 0), (8, 0), (9, 0), (10, 0), (11, 0), (12, 1), (13, 0), (14, 0), (15, 0), (16, 0), (17, 0), (18, 0), (19, 0), (20, 0), (21, 0), (22, 0), (23, 0), (24, 0), (25, 1), (26, 0), (27, 0), (28, 0), (29, 0), (30, 1), (31, 0), (32, 0), (33, 0)] mixed rfl (by kernel_rfl) (by kernel_rfl) [exact x] ?_
    refine hwk ?_
    refine CH.pure rfl (PS.indexAddr (j := i) rfl rfl rfl rfl h1) ?_
    refine hwk ?_
    (apply CH.read; (· rfl); (· apply PS.load (v := sv (l[i]).key); (· rfl); (· rfl); (· exact hp.cell (by first | exact pickA | exact updA) h1 0 rfl)); (· exact selA))
    refine CH.chain rfl fun K hK => ?_
    refine CX.callA (r8key_c (l[i]).key) ?_
    rw [decide_eq_true k1]
    rintro _ _ ⟨rfl, rfl⟩
    (refine CX.nil ?_; refine CQ.thenK ?_; apply hK; (· exact selA); clear hK K)
    refine hwk ?_
    refine CH.pure rfl (PS.indexAddr (j := i) rfl rfl rfl rfl h1) ?_
    refine hwk ?_
    (apply CH.read; (· rfl); (· apply PS.load (v := .slice (l[i]).s.a (l[i]).s.b.length (l[i]).s.c); (· rfl); (· rfl); (· exact hp.cell (by first | exact pickA | exact updA) h1 1 rfl)); (· exact selA))
    refine hwk ?_
    refine wk ?_
    ((apply CQ.end1; (· rfl); (· exact .tmp rfl)); (· exact ⟨rfl, rfl⟩); (· exact selA))
  have hok' : ∀ j (h : j < l.length), j < i + 1 → okR (l[j]).m := fun j h hj => by
    by_cases e : j = i
    · subst e; exact ⟨k1.1, k1.2, k2⟩
    · exact hok j h (by omega)
  by_cases h0 : i = 0
  · refine wk ?_
    refine CC.draw [(0, 0), (1, 0), (2, 0), (3, 0), (4, 1), (5, 2), (6, 0), (7, 0), (8, 0), (9, 0), (10, 0), (11, 0), (12, 1), (13, 0), (14, 0), (15, 0), (16, 0), (17, 0), (18, 0), (19, 0), (20, 0), (21, 0), (22, 0), (23, 0), (24, 0), (25, 1), (26, 0), (27, 0), (28, 0), (29, 0), (30, 1), (31, 0), (32, 0), (33, 0)] mixed rfl (by kernel_rfl) (by kernel_rfl) [exact x] ?_
    refine hwk ?_
    refine CH.pure rfl (PS.indexAddr (j := i) rfl rfl rfl rfl h1) ?_
    refine hwk ?_
    (apply CH.read; (· rfl); (· apply PS.load (v := sv (l[i]).key); (· rfl); (· rfl); (· exact hp.cell (by first | exact pickA | exact updA) h1 0 rfl)); (· exact selA))
    refine CH.chain rfl fun K hK => ?_
    refine CX.callA (r8key_c (l[i]).key) ?_
    rw [decide_eq_true k1]
    rintro _ _ ⟨rfl, rfl⟩
    (refine CX.nil ?_; refine CQ.thenK ?_; apply hK; (· exact selA); clear hK K)
    refine hwk ?_
    refine CH.pure rfl (PS.indexAddr (j := i) rfl rfl rfl rfl h1) ?_
    refine hwk ?_
    (apply CH.read; (· rfl); (· apply PS.load (v := .slice (l[i]).s.a (l[i]).s.b.length (l[i]).s.c); (· rfl); (· rfl); (· exact hp.cell (by first | exact pickA | exact updA) h1 1 rfl)); (· exact selA))
    refine hwk ?_
    refine wk ?_
    exact CQ.round (i + 1) ⟨h1, hok', fun j h hj => by omega⟩ (by omega) ⟨eqI (by omega), rfl, trivial⟩ (by exact selA)
  have h2 : i - 1 < l.length := by omega
  have h0' : 0 < i := by omega
  by_cases k3 : klt (rwKey l[i - 1]) (rwKey l[i]) = true
  · refine wk ?_
    refine CC.draw [(0, 0), (1, 0), (2, 0), (3, 0), (4, 1), (5, 2), (6, 0), (7, 0), (8, 0), (9, 0), (10, 0), (11, 0), (12, 1), (13, 0), (14, 0), (15, 0), (16, 0), (17, 0), (18, 0), (19, 0), (20, 0), (21, 0), (22, 0), (23, 0), (24, 0), (25, 1), (26, 0), (27, 0), (28, 0), (29, 0), (30, 1), (31, 0), (32, 0), (33, 0)] mixed rfl (by kernel_rfl) (by kernel_rfl) [exact x] ?_
    refine hwk ?_
    refine CH.pure rfl (PS.indexAddr (j := i) rfl rfl rfl rfl h1) ?_
    refine hwk ?_
    (apply CH.read; (· rfl); (· apply PS.load (v := sv (l[i]).key); (· rfl); (· rfl); (· exact hp.cell (by first | exact pickA | exact updA) h1 0 rfl)); (· exact selA))
    refine CH.chain rfl fun K hK => ?_
    refine CX.callA (r8key_c (l[i]).key) ?_
    rw [decide_eq_true k1]
    rintro _ _ ⟨rfl, rfl⟩
    (refine CX.nil ?_; refine CQ.thenK ?_; apply hK; (· exact selA); clear hK K)
    refine hwk ?_
    refine CH.pure rfl (PS.indexAddr (j := i) rfl rfl rfl rfl h1) ?_
    refine hwk ?_
    (apply CH.read; (· rfl); (· apply PS.load (v := .slice (l[i]).s.a (l[i]).s.b.length (l[i]).s.c); (· rfl); (· rfl); (· exact hp.cell (by first | exact pickA | exact updA) h1 1 rfl)); (· exact selA))
    refine hwk ?_
    refine CH.pure rfl (PS.indexAddr (j := i - 1) rfl rfl rfl (by omega) h2) ?_
    refine hwk ?_
    (apply CH.read; (· rfl); (· apply PS.load (v := sv (l[i - 1]).key); (· rfl); (· rfl); (· exact hp.cell (by first | exact pickA | exact updA) h2 0 rfl)); (· exact selA))
    refine hwk ?_
    refine CH.pure rfl (PS.indexAddr (j := i) rfl rfl rfl rfl h1) ?_
    refine hwk ?_
    (apply CH.read; (· rfl); (· apply PS.load (v := sv (l[i]).key); (· rfl); (· rfl); (· exact hp.cell (by first | exact pickA | exact updA) h1 0 rfl)); (· exact selA))
    refine CH.pure rfl (PS.geqStr (a := (l[i - 1]).key) (b := (l[i]).key) false (by rw [show klt (l[i - 1]).key (l[i]).key = true from k3]; rfl)) ?_
    refine hwk ?_
    refine wk ?_
    exact CQ.round (i + 1) ⟨h1, hok', fun j h hj => by
      by_cases e : j + 1 < i
      · exact hadj j h e
      · have ej : j + 1 = i := by omega
        subst ej
        simpa using k3⟩ (by omega) ⟨eqI (by omega), rfl, trivial⟩ (by exact selA)
  · have k3' : klt (rwKey l[i - 1]) (rwKey l[i]) = false := by simpa using k3
    rw [decide_eq_false (fun h => k3 (by have := mayR_adj h (i - 1) (by omega); simpa only [show i - 1 + 1 = i by omega] using this))]
    refine wk ?_
    refine CC.draw [(0, 0), (1, 0), (2, 0), (3, 0), (4, 1), (5, 2), (6, 0), (7, 0), (8, 0), (9, 0), (10, 0), (11, 0), (12, 1), (13, 0), (14, 0), (15, 0), (16, 0), (17, 0), (18, 0), (19, 0), (20, 0), (21, 0), (22, 0), (23, 0), (24, 0), (25, 1), (26, 0), (27, 0), (28, 0), (29, 0), (30, 1), (31, 0), (32, 0), (33, 0)] mixed rfl (by kernel_rfl) (by kernel_rfl) [exact x] ?_
    refine hwk ?_
    refine CH.pure rfl (PS.indexAddr (j := i) rfl rfl rfl rfl h1) ?_
    refine hwk ?_
    (apply CH.read; (· rfl); (· apply PS.load (v := sv (l[i]).key); (· rfl); (· rfl); (· exact hp.cell (by first | exact pickA | exact updA) h1 0 rfl)); (· exact selA))
    refine CH.chain rfl fun K hK => ?_
    refine CX.callA (r8key_c (l[i]).key) ?_
    rw [decide_eq_true k1]
    rintro _ _ ⟨rfl, rfl⟩
    (refine CX.nil ?_; refine CQ.thenK ?_; apply hK; (· exact selA); clear hK K)
    refine hwk ?_
    refine CH.pure rfl (PS.indexAddr (j := i) rfl rfl rfl rfl h1) ?_
    refine hwk ?_
    (apply CH.read; (· rfl); (· apply PS.load (v := .slice (l[i]).s.a (l[i]).s.b.length (l[i]).s.c); (· rfl); (· rfl); (· exact hp.cell (by first | exact pickA | exact updA) h1 1 rfl)); (· exact selA))
    refine hwk ?_
    refine CH.pure rfl (PS.indexAddr (j := i - 1) rfl rfl rfl (by omega) h2) ?_
    refine hwk ?_
    (apply CH.read; (· rfl); (· apply PS.load (v := sv (l[i - 1]).key); (· rfl); (· rfl); (· exact hp.cell (by first | exact pickA | exact updA) h2 0 rfl)); (· exact selA))
    refine hwk ?_
    refine CH.pure rfl (PS.indexAddr (j := i) rfl rfl rfl rfl h1) ?_
    refine hwk ?_
    (apply CH.read; (· rfl); (· apply PS.load (v := sv (l[i]).key); (· rfl); (· rfl); (· exact hp.cell (by first | exact pickA | exact updA) h1 0 rfl)); (· exact selA))
    refine CH.pure rfl (PS.geqStr (a := (l[i - 1]).key) (b := (l[i]).key) true (by rw [show klt (l[i - 1]).key (l[i]).key = false from k3']; rfl)) ?_
    refine hwk ?_
    refine wk ?_
    ((apply CQ.end1; (· rfl); (· exact .tmp rfl)); (· exact ⟨rfl, rfl⟩); (· exact selA))
end Go.Proofs.YtlckhaodecdbbaaGreatDoor
/-! ref 08: MayChange, in the program. Written by sy2.py. -/
namespace Go.Proofs.YtlckhaodecdbbaaGreatDoor
open Go.Cx
attribute [local irreducible] Go.Cx.CX Go.Cx.CC Go.Cx.CQ Go.Cx.PS Go.Cx.Ctr Go.Cx.CH
set_option maxRecDepth 10000
set_option maxHeartbeats 1000000 in
theorem r8mayC_c (l : List ChV) (hl : l.length ≤ 1073741824) (a : Option Addr) (c : Nat) : Ctr Tryz.prog 39 [.slice a l.length c] [] (fun x => chAt a l x) (fun v M => v = .bool (decide (MayC (l.map ChV.m))) ∧ M = []) := by
  refine Ctr.intro Tryz.func39 rfl Tryz.ntmps39 rfl fun x w hp => ?_
  refine wk ?_
  refine CC.loop (X := Nat) (fun i => [(3, .int .i64 (i : Int)), (0, .slice a l.length c)]) (fun i => [exact x])
    (fun i => i ≤ l.length ∧ (∀ j (h : j < l.length), j < i → (l[j]).m.ok) ∧ ∀ j (h : j + 1 < l.length), j + 1 < i → klt (chKey (l[j]'(by omega))) (chKey l[j + 1]) = true) (fun i => l.length - i) 0 ⟨Nat.zero_le _, fun j h h0 => by omega, fun j h h0 => by omega⟩ ⟨rfl, rfl, trivial⟩ (by exact selA) ?_
  rintro i ⟨hi, hok, hadj⟩
  by_cases h1 : i < l.length
  rotate_left
  · rw [decide_eq_true (mayC_of (fun j h => hok j h (by omega)) fun j h => hadj j h (by omega))]
    refine wk ?_
    ((apply CQ.end1; (· rfl); (· exact .tmp rfl)); (· exact ⟨rfl, rfl⟩); (· exact selA))
  obtain ⟨g, off, rfl⟩ := chAt_some hp (by omega)
  by_cases k1 : 1 ≤ (l[i]).key.length ∧ (l[i]).key.length ≤ 16
  rotate_left
  · rw [decide_eq_false (fun h => k1 ⟨(mayC_ok h i h1).k1, (mayC_ok h i h1).k2⟩)]
    refine wk ?_
    refine CC.draw [(0, 0), (1, 0), (2, 0), (3, 0), (4, 1), (5, 2), (6, 0), (7, 0), (8, 0), (9, 0), (10, 0), (11, 0), (12, 1), (13, 0), (14, 0), (15, 0), (16, 0), (17, 0), (18, 0), (19, 0), (20, 0), (21, 0), (22, 0), (23, 0), (24, 0), (25, 1), (26, 0), (27, 0), (28, 0), (29, 0), (30, 1), (31, 0), (32, 0), (33, 0), (34, 0), (35, 0), (36, 0), (37, 0), (38, 0), (39, 1), (40, 0), (41, 0), (42, 0), (43, 0), (44, 0), (45, 1), (46, 0), (47, 0), (48, 0), (49, 0)] mixed rfl (by kernel_rfl) (by kernel_rfl) [exact x] ?_
    refine hwk ?_
    refine CH.pure rfl (PS.indexAddr (j := i) rfl rfl rfl rfl h1) ?_
    refine hwk ?_
    (apply CH.read; (· rfl); (· apply PS.load (v := sv (l[i]).key); (· rfl); (· rfl); (· exact hp.cell (by first | exact pickA | exact updA) h1 0 rfl)); (· exact selA))
    refine CH.chain rfl fun K hK => ?_
    refine CX.callA (r8key_c (l[i]).key) ?_
    rw [decide_eq_false k1]
    rintro _ _ ⟨rfl, rfl⟩
    (refine CX.nil ?_; refine CQ.thenK ?_; apply hK; (· exact selA); clear hK K)
    refine hwk ?_
    refine wk ?_
    ((apply CQ.end1; (· rfl); (· exact .tmp rfl)); (· exact ⟨rfl, rfl⟩); (· exact selA))
  by_cases k2 : (l[i]).s.b.length ≤ 1048576
  rotate_left
  · rw [decide_eq_false (fun h => k2 (mayC_ok h i h1).v)]
    have k2' : 1048576 < (l[i]).s.b.length := by omega
    refine wk ?_
    refine CC.draw [(0, 0), (1, 0), (2, 0), (3, 0), (4, 1), (5, 2), (6, 0), (7, 0), (8, 0), (9, 0), (10, 0), (11, 0), (12, 1), (13, 0), (14, 0), (15, 0), (16, 0), (17, 0), (18, 0), (19, 0), (20, 0), (21, 0), (22, 0), (23, 0), (24, 0), (25, 1), (26, 0), (27, 0), (28, 0), (29, 0), (30, 1), (31, 0), (32, 0), (33, 0), (34, 0), (35, 0), (36, 0), (37, 0), (38, 0), (39, 1), (40, 0), (41, 0), (42, 0), (43, 0), (44, 0), (45, 1), (46, 0), (47, 0), (48, 0), (49, 0)] mixed rfl (by kernel_rfl) (by kernel_rfl) [exact x] ?_
    refine hwk ?_
    refine CH.pure rfl (PS.indexAddr (j := i) rfl rfl rfl rfl h1) ?_
    refine hwk ?_
    (apply CH.read; (· rfl); (· apply PS.load (v := sv (l[i]).key); (· rfl); (· rfl); (· exact hp.cell (by first | exact pickA | exact updA) h1 0 rfl)); (· exact selA))
    refine CH.chain rfl fun K hK => ?_
    refine CX.callA (r8key_c (l[i]).key) ?_
    rw [decide_eq_true k1]
    rintro _ _ ⟨rfl, rfl⟩
    (refine CX.nil ?_; refine CQ.thenK ?_; apply hK; (· exact selA); clear hK K)
    refine hwk ?_
    refine CH.pure rfl (PS.indexAddr (j := i) rfl rfl rfl rfl h1) ?_
    refine hwk ?_
    (apply CH.read; (· rfl); (· apply PS.load (v := .slice (l[i]).s.a (l[i]).s.b.length (l[i]).s.c); (· rfl); (· rfl); (· exact hp.cell (by first | exact pickA | exact updA) h1 1 rfl)); (· exact selA))
    refine hwk ?_
    refine wk ?_
    ((apply CQ.end1; (· rfl); (· exact .tmp rfl)); (· exact ⟨rfl, rfl⟩); (· exact selA))
  by_cases h0 : i = 0
  · skip
    by_cases hg : (l[i]).gone = true
    · by_cases k4 : (l[i]).s.b.length = 0
      · have hok' : ∀ j (h : j < l.length), j < i + 1 → (l[j]).m.ok := fun j h hj => by
          by_cases e : j = i
          · subst e; exact ⟨k1.1, k1.2, k2, fun _ => List.eq_nil_of_length_eq_zero k4⟩
          · exact hok j h (by omega)
        refine wk ?_
        refine CC.draw [(0, 0), (1, 0), (2, 0), (3, 0), (4, 1), (5, 2), (6, 0), (7, 0), (8, 0), (9, 0), (10, 0), (11, 0), (12, 1), (13, 0), (14, 0), (15, 0), (16, 0), (17, 0), (18, 0), (19, 0), (20, 0), (21, 0), (22, 0), (23, 0), (24, 0), (25, 1), (26, 0), (27, 0), (28, 0), (29, 0), (30, 1), (31, 0), (32, 0), (33, 0), (34, 0), (35, 0), (36, 0), (37, 0), (38, 0), (39, 1), (40, 0), (41, 0), (42, 0), (43, 0), (44, 0), (45, 1), (46, 0), (47, 0), (48, 0), (49, 0)] mixed rfl (by kernel_rfl) (by kernel_rfl) [exact x] ?_
        refine hwk ?_
        refine CH.pure rfl (PS.indexAddr (j := i) rfl rfl rfl rfl h1) ?_
        refine hwk ?_
        (apply CH.read; (· rfl); (· apply PS.load (v := sv (l[i]).key); (· rfl); (· rfl); (· exact hp.cell (by first | exact pickA | exact updA) h1 0 rfl)); (· exact selA))
        refine CH.chain rfl fun K hK => ?_
        refine CX.callA (r8key_c (l[i]).key) ?_
        rw [decide_eq_true k1]
        rintro _ _ ⟨rfl, rfl⟩
        (refine CX.nil ?_; refine CQ.thenK ?_; apply hK; (· exact selA); clear hK K)
        refine hwk ?_
        refine CH.pure rfl (PS.indexAddr (j := i) rfl rfl rfl rfl h1) ?_
        refine hwk ?_
        (apply CH.read; (· rfl); (· apply PS.load (v := .slice (l[i]).s.a (l[i]).s.b.length (l[i]).s.c); (· rfl); (· rfl); (· exact hp.cell (by first | exact pickA | exact updA) h1 1 rfl)); (· exact selA))
        refine hwk ?_
        refine CH.pure rfl (PS.indexAddr (j := i) rfl rfl rfl rfl h1) ?_
        refine hwk ?_
        (apply CH.read; (· rfl); (· apply PS.load (v := .bool true); (· rfl); (· rfl); (· exact hp.cell (by first | exact pickA | exact updA) h1 2 (by show some (Value.bool (l[i]).gone) = _; rw [hg]))); (· exact selA))
        refine hwk ?_
        refine CH.pure rfl (PS.indexAddr (j := i) rfl rfl rfl rfl h1) ?_
        refine hwk ?_
        (apply CH.read; (· rfl); (· apply PS.load (v := .slice (l[i]).s.a (l[i]).s.b.length (l[i]).s.c); (· rfl); (· rfl); (· exact hp.cell (by first | exact pickA | exact updA) h1 1 rfl)); (· exact selA))
        refine hwk ?_
        refine wk ?_
        exact CQ.round (i + 1) ⟨h1, hok', fun j h hj => by omega⟩ (by omega) ⟨eqI (by omega), rfl, trivial⟩ (by exact selA)
      · have k4' : 0 < (l[i]).s.b.length := by omega
        rw [decide_eq_false (fun h => k4 (by have := (mayC_ok h i h1).g hg; exact congrArg List.length this))]
        refine wk ?_
        refine CC.draw [(0, 0), (1, 0), (2, 0), (3, 0), (4, 1), (5, 2), (6, 0), (7, 0), (8, 0), (9, 0), (10, 0), (11, 0), (12, 1), (13, 0), (14, 0), (15, 0), (16, 0), (17, 0), (18, 0), (19, 0), (20, 0), (21, 0), (22, 0), (23, 0), (24, 0), (25, 1), (26, 0), (27, 0), (28, 0), (29, 0), (30, 1), (31, 0), (32, 0), (33, 0), (34, 0), (35, 0), (36, 0), (37, 0), (38, 0), (39, 1), (40, 0), (41, 0), (42, 0), (43, 0), (44, 0), (45, 1), (46, 0), (47, 0), (48, 0), (49, 0)] mixed rfl (by kernel_rfl) (by kernel_rfl) [exact x] ?_
        refine hwk ?_
        refine CH.pure rfl (PS.indexAddr (j := i) rfl rfl rfl rfl h1) ?_
        refine hwk ?_
        (apply CH.read; (· rfl); (· apply PS.load (v := sv (l[i]).key); (· rfl); (· rfl); (· exact hp.cell (by first | exact pickA | exact updA) h1 0 rfl)); (· exact selA))
        refine CH.chain rfl fun K hK => ?_
        refine CX.callA (r8key_c (l[i]).key) ?_
        rw [decide_eq_true k1]
        rintro _ _ ⟨rfl, rfl⟩
        (refine CX.nil ?_; refine CQ.thenK ?_; apply hK; (· exact selA); clear hK K)
        refine hwk ?_
        refine CH.pure rfl (PS.indexAddr (j := i) rfl rfl rfl rfl h1) ?_
        refine hwk ?_
        (apply CH.read; (· rfl); (· apply PS.load (v := .slice (l[i]).s.a (l[i]).s.b.length (l[i]).s.c); (· rfl); (· rfl); (· exact hp.cell (by first | exact pickA | exact updA) h1 1 rfl)); (· exact selA))
        refine hwk ?_
        refine CH.pure rfl (PS.indexAddr (j := i) rfl rfl rfl rfl h1) ?_
        refine hwk ?_
        (apply CH.read; (· rfl); (· apply PS.load (v := .bool true); (· rfl); (· rfl); (· exact hp.cell (by first | exact pickA | exact updA) h1 2 (by show some (Value.bool (l[i]).gone) = _; rw [hg]))); (· exact selA))
        refine hwk ?_
        refine CH.pure rfl (PS.indexAddr (j := i) rfl rfl rfl rfl h1) ?_
        refine hwk ?_
        (apply CH.read; (· rfl); (· apply PS.load (v := .slice (l[i]).s.a (l[i]).s.b.length (l[i]).s.c); (· rfl); (· rfl); (· exact hp.cell (by first | exact pickA | exact updA) h1 1 rfl)); (· exact selA))
        refine hwk ?_
        refine wk ?_
        ((apply CQ.end1; (· rfl); (· exact .tmp rfl)); (· exact ⟨rfl, rfl⟩); (· exact selA))
    · replace hg : (l[i]).gone = false := by simpa using hg
      have hok' : ∀ j (h : j < l.length), j < i + 1 → (l[j]).m.ok := fun j h hj => by
        by_cases e : j = i
        · subst e; exact ⟨k1.1, k1.2, k2, fun h => by have h' : (l[j]).gone = true := h; rw [hg] at h'; cases h'⟩
        · exact hok j h (by omega)
      refine wk ?_
      refine CC.draw [(0, 0), (1, 0), (2, 0), (3, 0), (4, 1), (5, 2), (6, 0), (7, 0), (8, 0), (9, 0), (10, 0), (11, 0), (12, 1), (13, 0), (14, 0), (15, 0), (16, 0), (17, 0), (18, 0), (19, 0), (20, 0), (21, 0), (22, 0), (23, 0), (24, 0), (25, 1), (26, 0), (27, 0), (28, 0), (29, 0), (30, 1), (31, 0), (32, 0), (33, 0), (34, 0), (35, 0), (36, 0), (37, 0), (38, 0), (39, 1), (40, 0), (41, 0), (42, 0), (43, 0), (44, 0), (45, 1), (46, 0), (47, 0), (48, 0), (49, 0)] mixed rfl (by kernel_rfl) (by kernel_rfl) [exact x] ?_
      refine hwk ?_
      refine CH.pure rfl (PS.indexAddr (j := i) rfl rfl rfl rfl h1) ?_
      refine hwk ?_
      (apply CH.read; (· rfl); (· apply PS.load (v := sv (l[i]).key); (· rfl); (· rfl); (· exact hp.cell (by first | exact pickA | exact updA) h1 0 rfl)); (· exact selA))
      refine CH.chain rfl fun K hK => ?_
      refine CX.callA (r8key_c (l[i]).key) ?_
      rw [decide_eq_true k1]
      rintro _ _ ⟨rfl, rfl⟩
      (refine CX.nil ?_; refine CQ.thenK ?_; apply hK; (· exact selA); clear hK K)
      refine hwk ?_
      refine CH.pure rfl (PS.indexAddr (j := i) rfl rfl rfl rfl h1) ?_
      refine hwk ?_
      (apply CH.read; (· rfl); (· apply PS.load (v := .slice (l[i]).s.a (l[i]).s.b.length (l[i]).s.c); (· rfl); (· rfl); (· exact hp.cell (by first | exact pickA | exact updA) h1 1 rfl)); (· exact selA))
      refine hwk ?_
      refine CH.pure rfl (PS.indexAddr (j := i) rfl rfl rfl rfl h1) ?_
      refine hwk ?_
      (apply CH.read; (· rfl); (· apply PS.load (v := .bool false); (· rfl); (· rfl); (· exact hp.cell (by first | exact pickA | exact updA) h1 2 (by show some (Value.bool (l[i]).gone) = _; rw [hg]))); (· exact selA))
      refine hwk ?_
      refine wk ?_
      exact CQ.round (i + 1) ⟨h1, hok', fun j h hj => by omega⟩ (by omega) ⟨eqI (by omega), rfl, trivial⟩ (by exact selA)
  have h2 : i - 1 < l.length := by omega
  have h0' : 0 < i := by omega
  by_cases k3 : klt (chKey l[i - 1]) (chKey l[i]) = true
  rotate_left
  · replace k3 : klt (chKey l[i - 1]) (chKey l[i]) = false := by simpa using k3
    rw [decide_eq_false (fun h => by have := mayC_adj h (i - 1) (by omega); simp only [show i - 1 + 1 = i by omega] at this; rw [this] at k3; cases k3)]
    refine wk ?_
    refine CC.draw [(0, 0), (1, 0), (2, 0), (3, 0), (4, 1), (5, 2), (6, 0), (7, 0), (8, 0), (9, 0), (10, 0), (11, 0), (12, 1), (13, 0), (14, 0), (15, 0), (16, 0), (17, 0), (18, 0), (19, 0), (20, 0), (21, 0), (22, 0), (23, 0), (24, 0), (25, 1), (26, 0), (27, 0), (28, 0), (29, 0), (30, 1), (31, 0), (32, 0), (33, 0), (34, 0), (35, 0), (36, 0), (37, 0), (38, 0), (39, 1), (40, 0), (41, 0), (42, 0), (43, 0), (44, 0), (45, 1), (46, 0), (47, 0), (48, 0), (49, 0)] mixed rfl (by kernel_rfl) (by kernel_rfl) [exact x] ?_
    refine hwk ?_
    refine CH.pure rfl (PS.indexAddr (j := i) rfl rfl rfl rfl h1) ?_
    refine hwk ?_
    (apply CH.read; (· rfl); (· apply PS.load (v := sv (l[i]).key); (· rfl); (· rfl); (· exact hp.cell (by first | exact pickA | exact updA) h1 0 rfl)); (· exact selA))
    refine CH.chain rfl fun K hK => ?_
    refine CX.callA (r8key_c (l[i]).key) ?_
    rw [decide_eq_true k1]
    rintro _ _ ⟨rfl, rfl⟩
    (refine CX.nil ?_; refine CQ.thenK ?_; apply hK; (· exact selA); clear hK K)
    refine hwk ?_
    refine CH.pure rfl (PS.indexAddr (j := i) rfl rfl rfl rfl h1) ?_
    refine hwk ?_
    (apply CH.read; (· rfl); (· apply PS.load (v := .slice (l[i]).s.a (l[i]).s.b.length (l[i]).s.c); (· rfl); (· rfl); (· exact hp.cell (by first | exact pickA | exact updA) h1 1 rfl)); (· exact selA))
    refine hwk ?_
    refine CH.pure rfl (PS.indexAddr (j := i - 1) rfl rfl rfl (by omega) h2) ?_
    refine hwk ?_
    (apply CH.read; (· rfl); (· apply PS.load (v := sv (l[i - 1]).key); (· rfl); (· rfl); (· exact hp.cell (by first | exact pickA | exact updA) h2 0 rfl)); (· exact selA))
    refine hwk ?_
    refine CH.pure rfl (PS.indexAddr (j := i) rfl rfl rfl rfl h1) ?_
    refine hwk ?_
    (apply CH.read; (· rfl); (· apply PS.load (v := sv (l[i]).key); (· rfl); (· rfl); (· exact hp.cell (by first | exact pickA | exact updA) h1 0 rfl)); (· exact selA))
    refine CH.pure rfl (PS.geqStr (a := (l[i - 1]).key) (b := (l[i]).key) true (by rw [show klt (l[i - 1]).key (l[i]).key = false from k3]; rfl)) ?_
    refine hwk ?_
    refine wk ?_
    ((apply CQ.end1; (· rfl); (· exact .tmp rfl)); (· exact ⟨rfl, rfl⟩); (· exact selA))
  by_cases hg : (l[i]).gone = true
  · by_cases k4 : (l[i]).s.b.length = 0
    · have hok' : ∀ j (h : j < l.length), j < i + 1 → (l[j]).m.ok := fun j h hj => by
        by_cases e : j = i
        · subst e; exact ⟨k1.1, k1.2, k2, fun _ => List.eq_nil_of_length_eq_zero k4⟩
        · exact hok j h (by omega)
      refine wk ?_
      refine CC.draw [(0, 0), (1, 0), (2, 0), (3, 0), (4, 1), (5, 2), (6, 0), (7, 0), (8, 0), (9, 0), (10, 0), (11, 0), (12, 1), (13, 0), (14, 0), (15, 0), (16, 0), (17, 0), (18, 0), (19, 0), (20, 0), (21, 0), (22, 0), (23, 0), (24, 0), (25, 1), (26, 0), (27, 0), (28, 0), (29, 0), (30, 1), (31, 0), (32, 0), (33, 0), (34, 0), (35, 0), (36, 0), (37, 0), (38, 0), (39, 1), (40, 0), (41, 0), (42, 0), (43, 0), (44, 0), (45, 1), (46, 0), (47, 0), (48, 0), (49, 0)] mixed rfl (by kernel_rfl) (by kernel_rfl) [exact x] ?_
      refine hwk ?_
      refine CH.pure rfl (PS.indexAddr (j := i) rfl rfl rfl rfl h1) ?_
      refine hwk ?_
      (apply CH.read; (· rfl); (· apply PS.load (v := sv (l[i]).key); (· rfl); (· rfl); (· exact hp.cell (by first | exact pickA | exact updA) h1 0 rfl)); (· exact selA))
      refine CH.chain rfl fun K hK => ?_
      refine CX.callA (r8key_c (l[i]).key) ?_
      rw [decide_eq_true k1]
      rintro _ _ ⟨rfl, rfl⟩
      (refine CX.nil ?_; refine CQ.thenK ?_; apply hK; (· exact selA); clear hK K)
      refine hwk ?_
      refine CH.pure rfl (PS.indexAddr (j := i) rfl rfl rfl rfl h1) ?_
      refine hwk ?_
      (apply CH.read; (· rfl); (· apply PS.load (v := .slice (l[i]).s.a (l[i]).s.b.length (l[i]).s.c); (· rfl); (· rfl); (· exact hp.cell (by first | exact pickA | exact updA) h1 1 rfl)); (· exact selA))
      refine hwk ?_
      refine CH.pure rfl (PS.indexAddr (j := i - 1) rfl rfl rfl (by omega) h2) ?_
      refine hwk ?_
      (apply CH.read; (· rfl); (· apply PS.load (v := sv (l[i - 1]).key); (· rfl); (· rfl); (· exact hp.cell (by first | exact pickA | exact updA) h2 0 rfl)); (· exact selA))
      refine hwk ?_
      refine CH.pure rfl (PS.indexAddr (j := i) rfl rfl rfl rfl h1) ?_
      refine hwk ?_
      (apply CH.read; (· rfl); (· apply PS.load (v := sv (l[i]).key); (· rfl); (· rfl); (· exact hp.cell (by first | exact pickA | exact updA) h1 0 rfl)); (· exact selA))
      refine CH.pure rfl (PS.geqStr (a := (l[i - 1]).key) (b := (l[i]).key) false (by rw [show klt (l[i - 1]).key (l[i]).key = true from k3]; rfl)) ?_
      refine hwk ?_
      refine CH.pure rfl (PS.indexAddr (j := i) rfl rfl rfl rfl h1) ?_
      refine hwk ?_
      (apply CH.read; (· rfl); (· apply PS.load (v := .bool true); (· rfl); (· rfl); (· exact hp.cell (by first | exact pickA | exact updA) h1 2 (by show some (Value.bool (l[i]).gone) = _; rw [hg]))); (· exact selA))
      refine hwk ?_
      refine CH.pure rfl (PS.indexAddr (j := i) rfl rfl rfl rfl h1) ?_
      refine hwk ?_
      (apply CH.read; (· rfl); (· apply PS.load (v := .slice (l[i]).s.a (l[i]).s.b.length (l[i]).s.c); (· rfl); (· rfl); (· exact hp.cell (by first | exact pickA | exact updA) h1 1 rfl)); (· exact selA))
      refine hwk ?_
      refine wk ?_
      exact CQ.round (i + 1) ⟨h1, hok', fun j h hj => by
          by_cases e : j + 1 < i
          · exact hadj j h e
          · have ej : j + 1 = i := by omega
            subst ej
            simpa using k3⟩ (by omega) ⟨eqI (by omega), rfl, trivial⟩ (by exact selA)
    · have k4' : 0 < (l[i]).s.b.length := by omega
      rw [decide_eq_false (fun h => k4 (by have := (mayC_ok h i h1).g hg; exact congrArg List.length this))]
      refine wk ?_
      refine CC.draw [(0, 0), (1, 0), (2, 0), (3, 0), (4, 1), (5, 2), (6, 0), (7, 0), (8, 0), (9, 0), (10, 0), (11, 0), (12, 1), (13, 0), (14, 0), (15, 0), (16, 0), (17, 0), (18, 0), (19, 0), (20, 0), (21, 0), (22, 0), (23, 0), (24, 0), (25, 1), (26, 0), (27, 0), (28, 0), (29, 0), (30, 1), (31, 0), (32, 0), (33, 0), (34, 0), (35, 0), (36, 0), (37, 0), (38, 0), (39, 1), (40, 0), (41, 0), (42, 0), (43, 0), (44, 0), (45, 1), (46, 0), (47, 0), (48, 0), (49, 0)] mixed rfl (by kernel_rfl) (by kernel_rfl) [exact x] ?_
      refine hwk ?_
      refine CH.pure rfl (PS.indexAddr (j := i) rfl rfl rfl rfl h1) ?_
      refine hwk ?_
      (apply CH.read; (· rfl); (· apply PS.load (v := sv (l[i]).key); (· rfl); (· rfl); (· exact hp.cell (by first | exact pickA | exact updA) h1 0 rfl)); (· exact selA))
      refine CH.chain rfl fun K hK => ?_
      refine CX.callA (r8key_c (l[i]).key) ?_
      rw [decide_eq_true k1]
      rintro _ _ ⟨rfl, rfl⟩
      (refine CX.nil ?_; refine CQ.thenK ?_; apply hK; (· exact selA); clear hK K)
      refine hwk ?_
      refine CH.pure rfl (PS.indexAddr (j := i) rfl rfl rfl rfl h1) ?_
      refine hwk ?_
      (apply CH.read; (· rfl); (· apply PS.load (v := .slice (l[i]).s.a (l[i]).s.b.length (l[i]).s.c); (· rfl); (· rfl); (· exact hp.cell (by first | exact pickA | exact updA) h1 1 rfl)); (· exact selA))
      refine hwk ?_
      refine CH.pure rfl (PS.indexAddr (j := i - 1) rfl rfl rfl (by omega) h2) ?_
      refine hwk ?_
      (apply CH.read; (· rfl); (· apply PS.load (v := sv (l[i - 1]).key); (· rfl); (· rfl); (· exact hp.cell (by first | exact pickA | exact updA) h2 0 rfl)); (· exact selA))
      refine hwk ?_
      refine CH.pure rfl (PS.indexAddr (j := i) rfl rfl rfl rfl h1) ?_
      refine hwk ?_
      (apply CH.read; (· rfl); (· apply PS.load (v := sv (l[i]).key); (· rfl); (· rfl); (· exact hp.cell (by first | exact pickA | exact updA) h1 0 rfl)); (· exact selA))
      refine CH.pure rfl (PS.geqStr (a := (l[i - 1]).key) (b := (l[i]).key) false (by rw [show klt (l[i - 1]).key (l[i]).key = true from k3]; rfl)) ?_
      refine hwk ?_
      refine CH.pure rfl (PS.indexAddr (j := i) rfl rfl rfl rfl h1) ?_
      refine hwk ?_
      (apply CH.read; (· rfl); (· apply PS.load (v := .bool true); (· rfl); (· rfl); (· exact hp.cell (by first | exact pickA | exact updA) h1 2 (by show some (Value.bool (l[i]).gone) = _; rw [hg]))); (· exact selA))
      refine hwk ?_
      refine CH.pure rfl (PS.indexAddr (j := i) rfl rfl rfl rfl h1) ?_
      refine hwk ?_
      (apply CH.read; (· rfl); (· apply PS.load (v := .slice (l[i]).s.a (l[i]).s.b.length (l[i]).s.c); (· rfl); (· rfl); (· exact hp.cell (by first | exact pickA | exact updA) h1 1 rfl)); (· exact selA))
      refine hwk ?_
      refine wk ?_
      ((apply CQ.end1; (· rfl); (· exact .tmp rfl)); (· exact ⟨rfl, rfl⟩); (· exact selA))
  · replace hg : (l[i]).gone = false := by simpa using hg
    have hok' : ∀ j (h : j < l.length), j < i + 1 → (l[j]).m.ok := fun j h hj => by
      by_cases e : j = i
      · subst e; exact ⟨k1.1, k1.2, k2, fun h => by have h' : (l[j]).gone = true := h; rw [hg] at h'; cases h'⟩
      · exact hok j h (by omega)
    refine wk ?_
    refine CC.draw [(0, 0), (1, 0), (2, 0), (3, 0), (4, 1), (5, 2), (6, 0), (7, 0), (8, 0), (9, 0), (10, 0), (11, 0), (12, 1), (13, 0), (14, 0), (15, 0), (16, 0), (17, 0), (18, 0), (19, 0), (20, 0), (21, 0), (22, 0), (23, 0), (24, 0), (25, 1), (26, 0), (27, 0), (28, 0), (29, 0), (30, 1), (31, 0), (32, 0), (33, 0), (34, 0), (35, 0), (36, 0), (37, 0), (38, 0), (39, 1), (40, 0), (41, 0), (42, 0), (43, 0), (44, 0), (45, 1), (46, 0), (47, 0), (48, 0), (49, 0)] mixed rfl (by kernel_rfl) (by kernel_rfl) [exact x] ?_
    refine hwk ?_
    refine CH.pure rfl (PS.indexAddr (j := i) rfl rfl rfl rfl h1) ?_
    refine hwk ?_
    (apply CH.read; (· rfl); (· apply PS.load (v := sv (l[i]).key); (· rfl); (· rfl); (· exact hp.cell (by first | exact pickA | exact updA) h1 0 rfl)); (· exact selA))
    refine CH.chain rfl fun K hK => ?_
    refine CX.callA (r8key_c (l[i]).key) ?_
    rw [decide_eq_true k1]
    rintro _ _ ⟨rfl, rfl⟩
    (refine CX.nil ?_; refine CQ.thenK ?_; apply hK; (· exact selA); clear hK K)
    refine hwk ?_
    refine CH.pure rfl (PS.indexAddr (j := i) rfl rfl rfl rfl h1) ?_
    refine hwk ?_
    (apply CH.read; (· rfl); (· apply PS.load (v := .slice (l[i]).s.a (l[i]).s.b.length (l[i]).s.c); (· rfl); (· rfl); (· exact hp.cell (by first | exact pickA | exact updA) h1 1 rfl)); (· exact selA))
    refine hwk ?_
    refine CH.pure rfl (PS.indexAddr (j := i - 1) rfl rfl rfl (by omega) h2) ?_
    refine hwk ?_
    (apply CH.read; (· rfl); (· apply PS.load (v := sv (l[i - 1]).key); (· rfl); (· rfl); (· exact hp.cell (by first | exact pickA | exact updA) h2 0 rfl)); (· exact selA))
    refine hwk ?_
    refine CH.pure rfl (PS.indexAddr (j := i) rfl rfl rfl rfl h1) ?_
    refine hwk ?_
    (apply CH.read; (· rfl); (· apply PS.load (v := sv (l[i]).key); (· rfl); (· rfl); (· exact hp.cell (by first | exact pickA | exact updA) h1 0 rfl)); (· exact selA))
    refine CH.pure rfl (PS.geqStr (a := (l[i - 1]).key) (b := (l[i]).key) false (by rw [show klt (l[i - 1]).key (l[i]).key = true from k3]; rfl)) ?_
    refine hwk ?_
    refine CH.pure rfl (PS.indexAddr (j := i) rfl rfl rfl rfl h1) ?_
    refine hwk ?_
    (apply CH.read; (· rfl); (· apply PS.load (v := .bool false); (· rfl); (· rfl); (· exact hp.cell (by first | exact pickA | exact updA) h1 2 (by show some (Value.bool (l[i]).gone) = _; rw [hg]))); (· exact selA))
    refine hwk ?_
    refine wk ?_
    exact CQ.round (i + 1) ⟨h1, hok', fun j h hj => by
        by_cases e : j + 1 < i
        · exact hadj j h e
        · have ej : j + 1 = i := by omega
          subst ej
          simpa using k3⟩ (by omega) ⟨eqI (by omega), rfl, trivial⟩ (by exact selA)
end Go.Proofs.YtlckhaodecdbbaaGreatDoor
/-! ref 08: Apply, in the program. -/
namespace Go.Cx
/-- Two tables, in the same memory. -/
@[irreducible] def tab2A (a : Option Addr) (t : List RwV) (b : Option Addr) (r : List RwV) : Assn where
  ok h := rwAt a t h ∧ rwAt b r h
  mono := fun _ _ e h => ⟨rwAt_mono h.1 e, rwAt_mono h.2 e⟩
theorem tab2A_ok {a b : Option Addr} {t r : List RwV} {h : PH} : (tab2A a t b r).ok h ↔ rwAt a t h ∧ rwAt b r h := by unfold tab2A; exact Iff.rfl
theorem rw_tab2 {L L' : List Assn} {a b : Option Addr} {t r : List RwV} (p : Pick (tab2A a t b r) L L') : ∀ y, Sep L y → rwAt b r y := fun y hy => (tab2A_ok.1 (p.ok hy)).2
theorem rw_tab1 {L L' : List Assn} {a b : Option Addr} {t r : List RwV} (p : Pick (tab2A a t b r) L L') : ∀ y, Sep L y → rwAt a t y := fun y hy => (tab2A_ok.1 (p.ok hy)).1
theorem own_rw {e : TypeId} {a : Option Addr} {c : Nat} {l : List RwV} {h : PH} (s : (own e 2 a l.length c (rows RwV.cells l)).ok h) (t : ∀ q ∈ l, q.s.ok h) : rwAt a l h := ⟨own_rdx s (one_rw l), t⟩
end Go.Cx
namespace Go.Proofs.YtlckhaodecdbbaaGreatDoor
open Go.Cx
attribute [local irreducible] Go.Cx.CX Go.Cx.CC Go.Cx.CQ Go.Cx.PS Go.Cx.Ctr Go.Cx.CH
set_option maxRecDepth 10000
def R8P (a : Option Addr) (t : List RwV) (l : List ChV) (v : Value) (M : List Assn) : Prop :=
  (¬ (MayR (t.map RwV.m) ∧ MayC (l.map ChV.m)) → v = .tuple #[.slice none 0 0, .int .i64 2] ∧ M = [tabA a t]) ∧
  (MayR (t.map RwV.m) ∧ MayC (l.map ChV.m) → ∃ a' c r, r.map RwV.m = applyM (t.map RwV.m) (l.map ChV.m) ∧ v = .tuple #[.slice a' (List.length r) c, .int .i64 0] ∧ M = [tab2A a t a' r] ∧ (a' = none → r.length = 0 ∧ c = 0) ∧ r.length ≤ c ∧ r.length ≤ t.length + l.length)
set_option maxHeartbeats 1000000 in
theorem r8apply_c (t : List RwV) (l : List ChV) (hl : t.length + l.length ≤ 1073741820) (a b : Option Addr) (ca cb' : Nat) (hca : t.length ≤ ca) (hn : a = none → t.length = 0 ∧ ca = 0) :
    Ctr Tryz.prog 11 [.slice a t.length ca, .slice b l.length cb'] [tabA a t] (fun x => chAt b l x) (R8P a t l) := by
  unfold R8P
  refine Ctr.intro Tryz.func11 rfl Tryz.ntmps11 rfl fun x w hp => ?_
  refine wk ?_
  refine CX.callA (r8may_c t (by omega) a ca) ?_ (hpre := by exact rw_tab (by first | exact pickA | exact updA))
  by_cases h1 : MayR (t.map RwV.m)
  rotate_left
  · rw [decide_eq_false h1]
    rintro _ _ ⟨rfl, rfl⟩
    refine wk ?_
    (apply CQ.end2; (· rfl); (· exact .tmp rfl); (· exact .tmp rfl))
    · exact ⟨fun _ => ⟨rfl, rfl⟩, fun h => absurd h.1 h1⟩
    · exact selA
  rw [decide_eq_true h1]
  rintro _ _ ⟨rfl, rfl⟩
  refine wk ?_
  refine CX.callA (r8mayC_c l (by omega) b cb') ?_ (hpre := by exact ch_ex (by first | exact pickA | exact updA) hp)
  by_cases h2 : MayC (l.map ChV.m)
  rotate_left
  · rw [decide_eq_false h2]
    rintro _ _ ⟨rfl, rfl⟩
    refine wk ?_
    (apply CQ.end2; (· rfl); (· exact .tmp rfl); (· exact .tmp rfl))
    · exact ⟨fun _ => ⟨rfl, rfl⟩, fun h => absurd h.2 h2⟩
    · exact selA
  rw [decide_eq_true h2]
  rintro _ _ ⟨rfl, rfl⟩
  refine wk ?_
  refine CC.turn (tab2A a t a t) (fun k s => tab2A_ok.2 ⟨tabA_ok.1 s, tabA_ok.1 s⟩) ?_
  refine CC.loop (X := Nat × Option Addr × Nat × List RwV) (fun s => [(6, .int .i64 (s.1 : Int)), (0, .slice s.2.1 s.2.2.2.length s.2.2.1), (1, .slice b l.length cb')]) (fun s => [tab2A a t s.2.1 s.2.2.2, exact x])
    (fun s => s.1 ≤ l.length ∧ s.2.2.2.map RwV.m = ((l.take s.1).map ChV.m).foldl (fun t c => applyM t [c]) (t.map RwV.m) ∧ s.2.2.2.length ≤ t.length + s.1 ∧ (s.2.1 = none → s.2.2.2.length = 0 ∧ s.2.2.1 = 0) ∧ s.2.2.2.length ≤ s.2.2.1)
    (fun s => l.length - s.1) (0, a, ca, t) ⟨Nat.zero_le _, rfl, Nat.le_refl _, hn, hca⟩ ⟨rfl, rfl, rfl, trivial⟩ (by exact selA) ?_
  rintro ⟨i, a', c', r⟩ ⟨hi, hm, hlen, hn', hc'⟩
  dsimp only at hi hm hlen hn' hc' ⊢
  by_cases hil : i < l.length
  rotate_left
  · rw [List.take_of_length_le (by omega), fold_apply h1.1 h2.1] at hm
    refine wk ?_
    (apply CQ.end2; (· rfl); (· exact .tmp rfl); (· exact .tmp rfl))
    · exact ⟨fun h => absurd ⟨h1, h2⟩ h, fun _ => ⟨a', c', r, hm, rfl, rfl, hn', hc', by omega⟩⟩
    · exact selA
  obtain ⟨g, off, rfl⟩ := chAt_some hp (by omega)
  have hris : Rising (r.map RwV.m) := by rw [hm]; exact fold_apply_rising _ _ h1.1
  have hstep : ((l.take (i + 1)).map ChV.m).foldl (fun t c => applyM t [c]) (t.map RwV.m) = applyM (r.map RwV.m) [(l[i]).m] := by
    rw [List.take_add_one, List.getElem?_eq_getElem hil, List.map_append, List.foldl_append, ← hm]; rfl
  have hcok := mayC_ok h2 i hil
  have hsok := hp.2 l[i] (List.getElem_mem hil)
  by_cases hg : (l[i]).gone = true
  · refine wk ?_
    (refine CX.indexA (i) ?_ ?_; (· exact hil))
    refine wk ?_
    (apply CX.ps; (· apply PS.load (v := .bool true); (· rfl); (· rfl); (· exact hp.cell (by first | exact pickA | exact updA) hil 2 (by show some (Value.bool (l[i]).gone) = _; rw [hg]))))
    refine wk ?_
    (refine CX.indexA (i) ?_ ?_; (· exact hil))
    refine wk ?_
    (apply CX.ps; (· apply PS.load (v := sv (l[i]).key); (· rfl); (· rfl); (· exact hp.cell (by first | exact pickA | exact updA) hil 0 rfl)))
    refine CX.callA (r8wo_c r (by omega) a' c' (l[i]).key) ?_ (hpre := by exact rw_tab2 (by first | exact pickA | exact updA))
    rintro _ _ ⟨a3, c3, rfl, rfl⟩
    refine CX.fact (own_none (e := 71) (by first | exact pickA | exact updA)) ?_
    rintro ⟨hn3, hc3, -⟩
    refine CX.merge (A := own 71 2 a3 (woV (l[i]).key r).length c3 (rows RwV.cells (woV (l[i]).key r))) (B := tab2A a t a' r) (tab2A a t a3 (woV (l[i]).key r)) (fun k s u => tab2A_ok.2 ⟨(tab2A_ok.1 u).1, own_rw s fun q hq => (tab2A_ok.1 u).2.2 q (woV_mem hq)⟩) ?_
    have hml : (woV (l[i]).key r).map RwV.m = applyM (r.map RwV.m) [(l[i]).m] := by
      rw [woV_m, wo_apply (l[i]).key (l[i]).s.b _ hris, show (l[i]).m = ⟨(l[i]).key, (l[i]).s.b, true⟩ from by rw [← hg]; rfl]
    have hle := woV_len (l[i]).key r
    refine wk ?_
    exact CQ.round (x := (i, a', c', r)) (i + 1, a3, c3, woV (l[i]).key r) ⟨hil, by rw [hstep]; exact hml, by dsimp only; omega, hn3, hc3⟩ (by dsimp only; omega) ⟨eqI (by omega), rfl, rfl, trivial⟩ (by exact selA)
  · have hg' : (l[i]).gone = false := by simpa using hg
    have hv := hcok.v
    have hvl : (l[i]).m.val.length = (l[i]).s.b.length := rfl
    refine wk ?_
    (refine CX.indexA (i) ?_ ?_; (· exact hil))
    refine wk ?_
    (apply CX.ps; (· apply PS.load (v := .bool false); (· rfl); (· rfl); (· exact hp.cell (by first | exact pickA | exact updA) hil 2 (by show some (Value.bool (l[i]).gone) = _; rw [hg']))))
    refine wk ?_
    refine CC.draw [(0, 0), (1, 0), (2, 0), (3, 0), (4, 0), (5, 1), (6, 0), (7, 0), (8, 0), (9, 0), (10, 1), (11, 2), (12, 0), (13, 2), (14, 0)] mixed rfl (by kernel_rfl) (by kernel_rfl) [exact x] ?_
    refine hwk ?_
    refine CH.pure rfl (PS.indexAddr (j := i) rfl rfl rfl rfl hil) ?_
    refine hwk ?_
    (apply CH.read; (· rfl); (· apply PS.load (v := sv (l[i]).key); (· rfl); (· rfl); (· exact hp.cell (by first | exact pickA | exact updA) hil 0 rfl)); (· exact selA))
    refine hwk ?_
    refine CH.pure rfl (PS.indexAddr (j := i) rfl rfl rfl rfl hil) ?_
    refine hwk ?_
    (apply CH.read; (· rfl); (· apply PS.load (v := .slice (l[i]).s.a (l[i]).s.b.length (l[i]).s.c); (· rfl); (· rfl); (· exact hp.cell (by first | exact pickA | exact updA) hil 1 rfl)); (· exact selA))
    refine CH.chain rfl fun K hK => ?_
    refine CX.callA (r0copy_c (l[i]).s.b (by omega) (l[i]).s.a (l[i]).s.c (fun e => ⟨by rw [(hsok.nil e).1]; rfl, (hsok.nil e).2⟩)) ?_ (hpre := by exact rdx_ex (by first | exact pickA | exact updA) hsok.r)
    rintro _ _ ⟨a2, c2, rfl, rfl⟩
    (refine CX.nil ?_; refine CQ.thenK ?_; apply hK; (· exact selA); clear hK K)
    refine CH.pure rfl (PS.build (vs := [(0, sv (l[i]).key), (1, .slice a2 (l[i]).s.b.length c2)]) (out := RwV.cells ⟨(l[i]).key, ⟨a2, (l[i]).s.b, c2⟩⟩) rfl rfl rfl) ?_
    refine CH.chain rfl fun K hK => ?_
    refine CX.callA (r8ins_c r (by omega) a' c' ⟨(l[i]).key, ⟨a2, (l[i]).s.b, c2⟩⟩) ?_ (hpre := by exact rw_tab2 (by first | exact pickA | exact updA))
    rintro _ _ ⟨a3, c3, F, hF, rfl, rfl⟩
    refine CX.fact (own_none (e := 71) (by first | exact pickA | exact updA)) ?_
    rintro ⟨hn3, hc3, -⟩
    refine CX.merge3 (A := own 71 2 a3 F.length c3 (rows RwV.cells F)) (B := tab2A a t a' r) (C := own 5 1 a2 (l[i]).s.b.length c2 (cb (l[i]).s.b)) (tab2A a t a3 F) (fun k s u z => tab2A_ok.2 ⟨(tab2A_ok.1 u).1, own_rw s fun q hq => by
      rw [hF] at hq
      rcases pgK_mem rwKey _ _ _ q hq with rfl | h
      · exact own_SlB z
      · exact (tab2A_ok.1 u).2.2 q h⟩) ?_
    (refine CX.nil ?_; refine CQ.thenK ?_; apply hK; (· exact selA); clear hK K)
    have hml : F.map RwV.m = applyM (r.map RwV.m) [(l[i]).m] := by
      rw [hF, pgK_map RwV.m rwKey Prod.fst (fun _ => rfl), pg_false _ _ hris]
      rw [show (l[i]).m = ⟨(l[i]).key, (l[i]).s.b, false⟩ from by rw [← hg']; rfl]; rfl
    have hle : F.length ≤ r.length + 1 := by rw [hF]; exact pgK_len rwKey _ false r
    refine hwk ?_
    refine wk ?_
    exact CQ.round (x := (i, a', c', r)) (i + 1, a3, c3, F) ⟨hil, by rw [hstep]; exact hml, by dsimp only; omega, hn3, hc3⟩ (by dsimp only; omega) ⟨eqI (by omega), rfl, rfl, trivial⟩ (by exact selA)
end Go.Proofs.YtlckhaodecdbbaaGreatDoor
/-! The statement StoreCuts, in the program. -/
namespace Go.Cx
/-- A store on a disk, and the table that it holds. -/
structure CutG (n i : Nat) (q : StQ) (bs : List Blk) (t : Tab) : Prop where
  g : GoodS n (2060 + i * 2060) q.2.1 q.1 bs t
  j : q.1.n ≤ i + 1
  w : wt t ≤ i * 25000
  t1 : q.2.2.2.2.map RwV.m = t
  n1 : q.2.2.1 = none → q.2.2.2.2.length = 0 ∧ q.2.2.2.1 = 0
  c1 : q.2.2.2.2.length ≤ q.2.2.2.1
theorem CutG.up {n i : Nat} {q : StQ} {bs : List Blk} {t : Tab} (h : CutG n i q bs t) : CutG n (i + 1) q bs t :=
  ⟨h.g.up (by omega), by have := h.j; omega, Nat.le_trans h.w (Nat.mul_le_mul_right _ (Nat.le_succ i)), h.t1, h.n1, h.c1⟩
theorem tab2_none {a : Option Addr} {t : List RwV} {x h : PH} (s : Sep ([tabA a t] ++ [exact x]) h) : Sep ([tab2A a t none []] ++ [exact x]) h :=
  Sep.turn (.head _) (fun k hk => tab2A_ok.2 ⟨tabA_ok.1 hk, .inl rfl, fun _ h => by cases h⟩) s
end Go.Cx
namespace Go.Proofs.YtlckhaodecdbbaaGreatDoor
open Go.Cx
attribute [local irreducible] Go.Cx.CX Go.Cx.CC Go.Cx.CQ Go.Cx.PS Go.Cx.Ctr Go.Cx.CH
set_option maxRecDepth 10000
theorem r8applyU_c (t : List RwV) (l : List ChV) (hl : t.length + l.length ≤ 1073741820) (hR : MayR (t.map RwV.m)) (a b : Option Addr) (ca cb' : Nat) (hca : t.length ≤ ca) (hn : a = none → t.length = 0 ∧ ca = 0) :
    Ctr Tryz.prog 11 [.slice a t.length ca, .slice b l.length cb'] [tabA a t] (fun x => chAt b l x)
      (fun v M => ∃ a' c r e, v = .tuple #[.slice a' (List.length r) c, .int .i64 e] ∧ M = [tab2A a t a' r] ∧ (a' = none → r.length = 0 ∧ c = 0) ∧ r.length ≤ c ∧ r.length ≤ t.length + l.length ∧
        ((¬ MayC (l.map ChV.m) ∧ e = 2) ∨ (MayC (l.map ChV.m) ∧ e = 0 ∧ r.map RwV.m = applyM (t.map RwV.m) (l.map ChV.m)))) := by
  refine Ctr.conseq (r8apply_c t l hl a b ca cb' hca hn) fun v M hv => ?_
  unfold R8P at hv
  by_cases hm : MayC (l.map ChV.m)
  · obtain ⟨a', c, r, h1, rfl, rfl, h2, h3, h4⟩ := hv.2 ⟨hR, hm⟩
    exact ⟨_, ⟨a', c, r, 0, rfl, rfl, h2, h3, h4, .inr ⟨hm, rfl, h1⟩⟩, fun x h hs => hs⟩
  · obtain ⟨rfl, rfl⟩ := hv.1 (fun h => hm h.2)
    exact ⟨_, ⟨none, 0, [], 2, rfl, rfl, fun _ => ⟨rfl, rfl⟩, Nat.le_refl _, Nat.zero_le _, .inl ⟨hm, rfl⟩⟩, fun x h hs => tab2_none hs⟩
set_option maxHeartbeats 2000000 in
theorem cuts9_c (n : Nat) (hn : n < 256) (ls : List ChsV) (arms : Blk) (picks : List Int) (a : Option Addr) (c : Nat) (a2 : Option Addr) (c2 : Nat) (a3 : Option Addr) (c3 : Nat) :
    Ctr Tryz.prog 3 [.int .u8 (n : Int), .slice a ls.length c, .slice a2 arms.length c2, .slice a3 picks.length c3] [] (fun x => clAt a ls x ∧ rdx a2 arms.length (cb arms) x ∧ rdx a3 picks.length (picks.map (Value.int .i64)) x ∧ errG x) (fun v M => v = .bool true ∧ M = []) := by
  refine Ctr.intro Tryz.func3 rfl Tryz.ntmps3 rfl fun x w hp => ?_
  obtain ⟨hp1, hp2, hp3, hp4⟩ := hp
  refine wk ?_
  refine CX.callA (new_c ((64 : Int) + (n : Int))) ?_
  rw [show ((64 : Int) + (n : Int)).toNat = 64 + n by omega]
  rintro _ _ (⟨-, -, d, rfl, rfl⟩ | ⟨h, -, -⟩)
  rotate_left
  · omega
  refine wk ?_
  refine CX.callA (smake_new d (64 + n) (by omega) (by omega)) ?_
  rintro _ _ ⟨s0, p0, D0, rfl, rfl, g0, -⟩
  refine wk ?_
  refine CC.give (tabA none []) (fun k => tabA_ok.2 ⟨.inl rfl, fun _ h => by cases h⟩) ?_
  refine CC.loop (X := Nat × Nat × Nat × StQ × Option Addr × Nat × List RwV) (fun q => [(14, .int .i64 (q.1 : Int)), (1, .slice a ls.length c), (2, .slice a2 arms.length c2), (3, .slice a3 picks.length c3), (9, .pointer (some ⟨d, 0, none⟩)), (11, .pointer (some ⟨q.2.1, 0, none⟩)), (13, .slice q.2.2.2.2.1 q.2.2.2.2.2.2.length q.2.2.2.2.2.1)])
    (fun q => [bk q.2.1 79 (stc q.2.2.1 q.2.2.2.1.2.2.1 q.2.2.2.1.2.2.2.2.length q.2.2.2.1.2.2.2.1), bk q.2.2.1 123 (jrc d q.2.2.2.1.1), disk d q.2.2.2.1.2.1, tabA q.2.2.2.1.2.2.1 q.2.2.2.1.2.2.2.2, tabA q.2.2.2.2.1 q.2.2.2.2.2.2, exact x])
    (fun q => q.1 ≤ 30 ∧ ∃ bs t, CutG (64 + n) q.1 q.2.2.2.1 bs t ∧ q.2.2.2.2.2.2.map RwV.m = t ∧ (q.2.2.2.2.1 = none → q.2.2.2.2.2.2.length = 0 ∧ q.2.2.2.2.2.1 = 0) ∧ q.2.2.2.2.2.2.length ≤ q.2.2.2.2.2.1)
    (fun q => 30 - q.1) (0, s0, p0, (⟨1, HdM.z⟩, D0, none, 0, []), none, 0, []) ⟨Nat.zero_le _, [], [], ⟨g0, Nat.le_refl _, Nat.zero_le _, rfl, fun _ => ⟨rfl, rfl⟩, Nat.le_refl _⟩, rfl, fun _ => ⟨rfl, rfl⟩, Nat.le_refl _⟩ ⟨rfl, rfl, rfl, rfl, rfl, rfl, rfl, trivial⟩ (by exact selA) ?_
  clear g0
  rintro ⟨i, s, p, ⟨J, D, a1, c1, tl⟩, a13, c13, ws⟩ ⟨hi, bs, t, hG, hwt', hnw, hcw⟩
  dsimp only at hi hG hwt' hnw hcw ⊢
  by_cases h1 : i < ls.length ∧ i < 30
  rotate_left
  · by_cases h2 : i < ls.length
    · have h3 : ¬ (i : Int) < 30 := by omega
      refine wk ?_
      refine CX.callA (lives9_c) ?_ (hpre := by exact errG_ex (by first | exact pickA | exact updA) hp4)
      rintro _ _ ⟨rfl, rfl⟩
      refine wk ?_
      ((apply CQ.end1; (· rfl); (· exact .tmp rfl)); (· exact ⟨rfl, rfl⟩); (· exact selA))
    · refine wk ?_
      refine CX.callA (lives9_c) ?_ (hpre := by exact errG_ex (by first | exact pickA | exact updA) hp4)
      rintro _ _ ⟨rfl, rfl⟩
      refine wk ?_
      ((apply CQ.end1; (· rfl); (· exact .tmp rfl)); (· exact ⟨rfl, rfl⟩); (· exact selA))
  obtain ⟨h1, h2⟩ := h1
  obtain ⟨ga, oa, rfl⟩ := clAt_some hp1 (by omega)
  have hsok := hp1.2 ls[i] (List.getElem_mem h1)
  have hcS : ∀ {L L' : List Assn}, Pick (exact x) L L' → CellAt L ga (oa + i * 1) (.slice (ls[i]).a (ls[i]).l.length (ls[i]).c) := fun pk => hp1.cell pk h1
  generalize ls[i] = r at *
  have hrl := hsok.le
  have hG0 := hG
  obtain ⟨g, hj, hw, ht1, hn1, hc1⟩ := hG
  dsimp only at g hj hw ht1 hn1 hc1
  have hlt := wt_len' ht1
  have hlw := wt_len' hwt'
  have hi25 : wt t + 25000 ≤ 1048572 := by have : i * 25000 ≤ 750000 := Nat.mul_le_mul_right 25000 (show i ≤ 30 by omega); omega
  have hw25 : wt t + 25000 ≤ (i + 1) * 25000 := by rw [Nat.succ_mul]; exact Nat.add_le_add_right hw _
  have hmw : MayR (ws.map RwV.m) := by rw [hwt']; exact g.may
  have hmt : MayR (tl.map RwV.m) := by rw [ht1]; exact g.may
  refine wk ?_
  (refine CX.indexA (i) ?_ ?_; (· exact h1))
  (apply CX.ps; (· apply PS.load (v := .slice r.a r.l.length r.c); (· rfl); (· rfl); (· exact hcS (by first | exact pickA | exact updA))))
  refine CX.callA (great_c r.a r.l r.c (Nat.le_trans hsok.le hsok.max)) ?_ (hpre := by exact ch_ex (by first | exact pickA | exact updA) hsok.r)
  rintro _ _ ⟨gr, rfl, rfl, hsm⟩
  cases gr with
  | true =>
    refine wk ?_
    refine CQ.round (x := (i, s, p, (J, D, a1, c1, tl), a13, c13, ws)) (i + 1, s, p, (J, D, a1, c1, tl), a13, c13, ws) ?_ (by dsimp only; omega) ⟨eqI (by omega), rfl, rfl, rfl, rfl, rfl, rfl, trivial⟩ (by exact selA)
    exact ⟨by dsimp only; omega, bs, t, hG0.up, hwt', hnw, hcw⟩
  | false =>
  have hsmall := hsm rfl
  have hW : MayC (r.l.map ChV.m) → wl (r.l.map ChV.m) ≤ 25000 := hsmall.wl
  have hr200 := hsmall.1
  refine wk ?_
  (refine CX.indexA (i) ?_ ?_; (· exact h1))
  (apply CX.ps; (· apply PS.load (v := .slice r.a r.l.length r.c); (· rfl); (· rfl); (· exact hcS (by first | exact pickA | exact updA))))
  refine CX.callA (r8applyU_c ws r.l (by omega) hmw a13 r.a c13 r.c hcw hnw) ?_ (hpre := by exact ch_ex (by first | exact pickA | exact updA) hsok.r)
  rintro _ _ ⟨a15, c15, now, e16, rfl, rfl, hn15, hc15, hl15, hnow⟩
  rw [hwt'] at hnow
  refine wk ?_
  refine CC.join (X := Nat) (fun K => [(17, .int .i64 (K : Int)), (15, .slice a15 now.length c15), (16, .int .i64 e16), (14, .int .i64 (i : Int)), (1, .slice (some ⟨ga, oa, none⟩) ls.length c), (2, .slice a2 arms.length c2), (3, .slice a3 picks.length c3), (9, .pointer (some ⟨d, 0, none⟩)), (11, .pointer (some ⟨s, 0, none⟩)), (13, .slice a13 ws.length c13)])
    (fun _ => [bk s 79 (stc p a1 tl.length c1), bk p 123 (jrc d J), disk d D, tabA a1 tl, tab2A a13 ws a15 now, exact x]) (fun K => K < 64) ?_ ?_
  · by_cases h3 : i < arms.length
    · obtain ⟨g2, o2, rfl⟩ := rdx_some hp2 (by omega)
      have hl8 : arms[i].toNat < 256 := arms[i].toNat_lt
      refine wk ?_
      (refine CX.indexA (i) ?_ ?_; (· exact h3))
      (refine CX.loadA _ (CellAt.rd (j := i) (by first | exact pickA | exact updA) hp2 rfl h3) ?_)
      refine CX.ps (PS.rem (z := ((arms[i].toNat % 64 : Nat) : Int)) rfl rfl rfl (by decide) (tmod_nn (by omega))) ?_
      have hm32 : arms[i].toNat % 64 < 64 := Nat.mod_lt _ (by omega)
      generalize arms[i].toNat % 64 = K at hm32 ⊢
      refine wk ?_
      exact CQ.joined K hm32 ⟨rfl, rfl, rfl, rfl, rfl, rfl, rfl, rfl, rfl, rfl, trivial⟩ (by exact selA)
    · refine wk ?_
      exact CQ.joined 0 (by decide) ⟨rfl, rfl, rfl, rfl, rfl, rfl, rfl, rfl, rfl, rfl, trivial⟩ (by exact selA)
  intro K hK
  have harm := g.g.calm.arm g.g.js.lo K
  replace g := g.arm K (by omega)
  refine wk ?_
  (have cc := arm_c d D (K : Int); simp only [harm] at cc; refine CX.callA cc ?_; clear cc; rintro _ _ ⟨rfl, rfl⟩)
  clear harm
  generalize ({ sure := D.sure, loose := D.loose, left := (K : Int), steps := D.steps, dark := D.dark } : DS) = D1 at *
  refine wk ?_
  (refine CX.indexA (i) ?_ ?_; (· exact h1))
  (apply CX.ps; (· apply PS.load (v := .slice r.a r.l.length r.c); (· rfl); (· rfl); (· exact hcS (by first | exact pickA | exact updA))))
  refine CX.callA (scommit_c s p d g.g (by omega) (by omega) r.l tl hmt (by omega) (fun h => by have := hW h; rw [ht1]; omega) (by rw [ht1]; omega) r.a a1 r.c c1 hrl hc1 hn1) ?_ (hpre := by exact fun y hy => ⟨ch_ex (by first | exact pickA | exact updA) hsok.r y hy, errG_ex (by first | exact pickA | exact updA) hp4 y hy⟩)
  rw [ht1]
  unfold CommitP
  rintro _ _ ⟨a6, c6, tl6, rfl, rfl, ht6, hn6, hc6, hw6⟩
  have hwf : 2060 + i * 2060 + 2060 = 2060 + (i + 1) * 2060 := by omega
  rw [hwf] at hw6
  have hup : 2060 + i * 2060 ≤ 2060 + (i + 1) * 2060 := by omega
  have hw1 : wt t ≤ (i + 1) * 25000 := Nat.le_trans hw (Nat.mul_le_mul_right _ (Nat.le_succ i))
  apply CX.share (P := Tryz.prog) (n := 119) (e0 := w) (X := Nat × Nat × StQ × Option Addr × Nat × List RwV) (fun q => [(112, .pointer (some ⟨q.1, 0, none⟩)), (15, .slice q.2.2.2.1 q.2.2.2.2.2.length q.2.2.2.2.1), (14, .int .i64 (i : Int)), (1, .slice (some ⟨ga, oa, none⟩) ls.length c), (2, .slice a2 arms.length c2), (3, .slice a3 picks.length c3), (9, .pointer (some ⟨d, 0, none⟩)), (11, .pointer (some ⟨q.1, 0, none⟩))])
    (fun q => [bk q.1 79 (stc q.2.1 q.2.2.1.2.2.1 q.2.2.1.2.2.2.2.length q.2.2.1.2.2.2.1), bk q.2.1 123 (jrc d q.2.2.1.1), disk d q.2.2.1.2.1, tabA q.2.2.1.2.2.1 q.2.2.1.2.2.2.2, tabA q.2.2.2.1 q.2.2.2.2.2, exact x])
    (fun q => ∃ bs t, CutG (64 + n) (i + 1) q.2.2.1 bs t ∧ q.2.2.2.2.2.map RwV.m = t ∧ (q.2.2.2.1 = none → q.2.2.2.2.2.length = 0 ∧ q.2.2.2.2.1 = 0) ∧ q.2.2.2.2.2.length ≤ q.2.2.2.2.1)
  · intro fin
    by_cases hm : MayC (r.l.map ChV.m)
    rotate_left
    · have e : commitM J D1 t (r.l.map ChV.m) = (2, J, D1, t) := by unfold commitM; rw [if_pos hm]
      rw [e] at ht6 hw6 ⊢
      dsimp only at ht6 hw6 ⊢
      obtain ⟨-, rfl⟩ := hnow.resolve_right (fun h => hm h.1)
      refine wk ?_
      (refine CX.ps (PS.eqlBool false ?_ Tryz.underlying4 rfl rfl rfl) ?_; (· rfl))
      refine wk ?_
      refine CX.turn (tabA a13 ws) (fun _ s => tabA_ok.2 (tab2A_ok.1 s).1) ?_
      have f := fin (s, p, (J, D1, a6, c6, tl6), a13, c13, ws) ⟨bs, t, ⟨g.up hup, by dsimp only; omega, hw1, ht6, hn6, hc6⟩, hwt', hnw, hcw⟩
      apply CX.weak (h := f)
      · exact ⟨rfl, rfl, rfl, rfl, rfl, rfl, rfl, rfl, trivial⟩
      · exact selA
    obtain ⟨-, rfl, hnm⟩ := hnow.resolve_left (fun h => h.1 hm)
    specialize hW hm
    have hwa := wt_apply t (r.l.map ChV.m)
    by_cases h0 : r.l.map ChV.m = []
    · rw [h0, commit_none] at ht6 hw6
      rw [h0, apply_nil] at hnm
      rw [h0, commit_none]
      dsimp only at ht6 hw6 ⊢
      refine wk ?_
      (refine CX.ps (PS.eqlBool false ?_ Tryz.underlying4 rfl rfl rfl) ?_; (· rfl))
      refine wk ?_
      refine CX.turn (tabA a15 now) (fun _ s => tabA_ok.2 (tab2A_ok.1 s).2) ?_
      have f := fin (s, p, (J, D1, a6, c6, tl6), a15, c15, now) ⟨bs, t, ⟨g.up hup, by dsimp only; omega, hw1, ht6, hn6, hc6⟩, hnm, hn15, hc15⟩
      apply CX.weak (h := f)
      · exact ⟨rfl, rfl, rfl, rfl, rfl, rfl, rfl, rfl, trivial⟩
      · exact selA
    rcases commit_out g (by omega) hm h0 (by omega) (by omega) hw6 with ⟨e, -⟩ | ⟨bs', -, ⟨J', D', e, hjn, gg, -⟩ | ⟨J', D', e, -, hdk, hcr⟩⟩
    · rw [e] at ht6 hw6 ⊢
      dsimp only at ht6 hw6 ⊢
      refine wk ?_
      (refine CX.ps (PS.eqlBool false ?_ Tryz.underlying4 rfl rfl rfl) ?_; (· rfl))
      refine wk ?_
      refine CX.turn (tabA a13 ws) (fun _ s => tabA_ok.2 (tab2A_ok.1 s).1) ?_
      have f := fin (s, p, (J, D1, a6, c6, tl6), a13, c13, ws) ⟨bs, t, ⟨g.up hup, by dsimp only; omega, hw1, ht6, hn6, hc6⟩, hwt', hnw, hcw⟩
      apply CX.weak (h := f)
      · exact ⟨rfl, rfl, rfl, rfl, rfl, rfl, rfl, rfl, trivial⟩
      · exact selA
    · rw [e] at ht6 hw6 ⊢
      dsimp only at ht6 hw6 ⊢
      refine wk ?_
      (refine CX.ps (PS.eqlBool false ?_ Tryz.underlying4 rfl rfl rfl) ?_; (· rfl))
      refine wk ?_
      refine CX.turn (tabA a15 now) (fun _ s => tabA_ok.2 (tab2A_ok.1 s).2) ?_
      have f := fin (s, p, (J', D', a6, c6, tl6), a15, c15, now) ⟨bs', _, ⟨gg, by dsimp only; omega, by omega, ht6, hn6, hc6⟩, hnm, hn15, hc15⟩
      apply CX.weak (h := f)
      · exact ⟨rfl, rfl, rfl, rfl, rfl, rfl, rfl, rfl, trivial⟩
      · exact selA
    · rw [e] at ht6 hw6 ⊢
      dsimp only at ht6 hw6 ⊢
      obtain ⟨Jx, bx, tx, gx, hjx, htx⟩ := hcr picks
      have hwx : wt tx ≤ (i + 1) * 25000 := by rcases htx with rfl | rfl <;> omega
      have hi31 : (i + 1) * 25000 ≤ 750000 := Nat.mul_le_mul_right 25000 (show i + 1 ≤ 30 by omega)
      refine wk ?_
      (refine CX.ps (PS.eqlBool false ?_ Tryz.underlying4 rfl rfl rfl) ?_; (· rfl))
      refine wk ?_
      refine CX.callA (crash_c d D' picks a3 c3 hw6 (by omega)) ?_ (hpre := by exact rdx_ex (by first | exact pickA | exact updA) hp3)
      rintro _ _ ⟨rfl, rfl⟩
      generalize D'.crash picks = D2 at *
      refine wk ?_
      refine CX.callA (sopen_go d gx (by omega)) ?_
      rintro _ _ ⟨s3, p3, a5, tl5, c5, rfl, rfl, ht5, hn5, hc5⟩
      have hl5 := wt_len' ht5
      have hm5 : MayR (tl5.map RwV.m) := by rw [ht5]; exact gx.may
      refine wk ?_
      refine CX.callA (srowsT_c s3 p3 a5 tl5 c5 (by omega) hn5 (may_small hm5)) ?_
      rintro _ _ ⟨a4, c4, l4, rfl, rfl, ht4⟩
      have hl4 := wt_len' (ht4.trans ht5)
      refine wk ?_
      refine CX.callA (eqmR_c l4 ws (by omega) a4 a13 c4 c13 (by omega)) ?_ (hpre := by exact fun y hy => ⟨rw_tab (a := a4) (l := l4) (by first | exact pickA | exact updA) y hy, rw_tab1 (a := a13) (t := ws) (b := a15) (r := now) (by first | exact pickA | exact updA) y hy⟩)
      by_cases htt : tx = t
      · subst htt
        rw [decide_eq_true (ht4.trans (ht5.trans hwt'.symm))]
        rintro _ _ ⟨rfl, rfl⟩
        refine wk ?_
        refine CQ.turn (tabA a13 ws) (fun _ s => tabA_ok.2 (tab2A_ok.1 s).1) ?_
        refine CQ.round (x := (i, s, p, (J, D, a1, c1, tl), a13, c13, ws)) (i + 1, s3, p3, (Jx, D2, a5, c5, tl5), a13, c13, ws) ?_ (by dsimp only; omega) ⟨eqI (by omega), rfl, rfl, rfl, rfl, rfl, rfl, trivial⟩ (by exact selA)
        exact ⟨by dsimp only; omega, bx, _, ⟨gx, by dsimp only; omega, hwx, ht5, hn5, hc5⟩, hwt', hnw, hcw⟩
      · rw [decide_eq_false (fun h => htt (ht5.symm.trans (ht4.symm.trans (h.trans hwt'))))]
        obtain rfl := htx.resolve_left htt
        rintro _ _ ⟨rfl, rfl⟩
        refine wk ?_
        refine CX.turn (tabA a15 now) (fun _ s => tabA_ok.2 (tab2A_ok.1 s).2) ?_
        have f := fin (s3, p3, (Jx, D2, a5, c5, tl5), a15, c15, now) ⟨bx, _, ⟨gx, by dsimp only; omega, hwx, ht5, hn5, hc5⟩, hnm, hn15, hc15⟩
        apply CX.weak (h := f)
        · exact ⟨rfl, rfl, rfl, rfl, rfl, rfl, rfl, rfl, trivial⟩
        · exact selA
  · rintro ⟨s', p', ⟨J', D', a7, c7, tl7⟩, a8, c8, now8⟩ ⟨bs', t', hG', hm8, hn8, hc8⟩
    have hG0' := hG'
    obtain ⟨g', hj', hw', ht', hn7, hc7⟩ := hG'
    dsimp only at g' hj' hw' ht' hn7 hc7 hm8 hn8 hc8 ⊢
    have hi31 : (i + 1) * 25000 ≤ 750000 := Nat.mul_le_mul_right 25000 (show i + 1 ≤ 30 by omega)
    have hl7 := wt_len' ht'
    have hl8 := wt_len' hm8
    refine CX.callA (srowsT_c s' p' a7 tl7 c7 (by omega) hn7 (may_small (by rw [ht']; exact g'.may))) ?_
    rintro _ _ ⟨a4, c4, l4, rfl, rfl, ht4⟩
    have hl4 := wt_len' (ht4.trans ht')
    refine wk ?_
    refine CX.callA (eqmR_c l4 now8 (by omega) a4 a8 c4 c8 (by omega)) ?_ (hpre := by exact fun y hy => ⟨rw_tab (a := a4) (l := l4) (by first | exact pickA | exact updA) y hy, rw_tab (a := a8) (l := now8) (by first | exact pickA | exact updA) y hy⟩)
    rw [decide_eq_true (ht4.trans (ht'.trans hm8.symm))]
    rintro _ _ ⟨rfl, rfl⟩
    refine wk ?_
    refine CQ.round (x := (i, s, p, (J, D, a1, c1, tl), a13, c13, ws)) (i + 1, s', p', (J', D', a7, c7, tl7), a8, c8, now8) ?_ (by dsimp only; omega) ⟨eqI (by omega), rfl, rfl, rfl, rfl, rfl, rfl, trivial⟩ (by exact selA)
    exact ⟨by dsimp only; omega, bs', t', hG0', hm8, hn8, hc8⟩
end Go.Proofs.YtlckhaodecdbbaaGreatDoor
