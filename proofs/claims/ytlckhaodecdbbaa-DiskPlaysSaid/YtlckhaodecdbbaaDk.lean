/- The disk's methods: what each does, by the plain words of DkM. -/
import Derived.Test.YtlckhaodecdbbaaCg
set_option linter.unusedVariables false
set_option linter.unusedSimpArgs false
namespace Go.Proofs.Ytlckhaodecdbbaa
open Go.Cx
attribute [local irreducible] Go.Cx.CX Go.Cx.CC Go.Cx.CQ Go.Cx.PS Go.Cx.Ctr Go.Cx.CH
set_option maxRecDepth 10000

/-- A disk's struct and its two slices. -/
@[irreducible] def disk (p : Nat) (D : DS) : Assn :=
  exA (X := Nat × Nat × Option Addr × Nat) (fun _ => True) fun q =>
    [bk p 89 [.slice (some ⟨q.1, 0, none⟩) D.sure.length q.2.1, .slice q.2.2.1 D.loose.length q.2.2.2, .int .i64 D.left, .int .i64 (D.steps : Int), .bool D.dark],
     own 29 128 (some ⟨q.1, 0, none⟩) D.sure.length q.2.1 (flat D.sure), own 127 129 q.2.2.1 D.loose.length q.2.2.2 (flatL D.loose)]
theorem disk_eq (p : Nat) (D : DS) : disk p D = exA (X := Nat × Nat × Option Addr × Nat) (fun _ => True) fun q =>
    [bk p 89 [.slice (some ⟨q.1, 0, none⟩) D.sure.length q.2.1, .slice q.2.2.1 D.loose.length q.2.2.2, .int .i64 D.left, .int .i64 (D.steps : Int), .bool D.dark],
     own 29 128 (some ⟨q.1, 0, none⟩) D.sure.length q.2.1 (flat D.sure), own 127 129 q.2.2.1 D.loose.length q.2.2.2 (flatL D.loose)] := by unfold disk; rfl

theorem there_ok {D : DS} {n : Int} (h : D.there n = 0) : ∃ k : Nat, n = (k : Int) ∧ k < D.sure.length := by
  unfold DS.there errOf at h
  split at h
  · exact ⟨n.toNat, by omega, by omega⟩
  · cases h
theorem sure_at {D : DS} {N k : Nat} (h : D.wf N) (hk : k < D.sure.length) : ((flat D.sure).drop (0 + k * 128)).take (cb D.sure[k]).length = cb D.sure[k] := by
  have hl : ∀ x ∈ D.sure, (cb x).length = 128 := fun x hx => (h.wb x hx).len
  have := rows_get cb 128 D.sure hl k hk 0 128 (by omega)
  rw [Nat.zero_add, hl _ (by simp)]
  simp only [Nat.add_zero, List.drop_zero] at this
  rw [flat, this, List.take_of_length_le (by rw [hl _ (by simp)]; omega)]
theorem step_wf {D : DS} {N : Nat} (h : D.wf N) : D.step.2.wf (N + 1) := by
  have h1 := h.left0; have h2 := h.left1; have h3 := h.steps; have h4 := h.loose
  unfold DS.step
  split
  · exact ⟨h.lo, h.hi, h.wb, h.lb, h1, h2, by simp; omega, by simp; omega⟩
  · exact ⟨h.lo, h.hi, h.wb, h.lb, by simp; omega, by simp; omega, by simp; omega, by simp; omega⟩
theorem none_c (p : Nat) (D : DS) : Ctr Try.prog 86 [.pointer (some ⟨p, 0, none⟩)] [disk p D] (fun _ => True) (fun v M => v = .bool false ∧ M = [disk p D]) := by
  refine Ctr.intro Try.func86 rfl Try.ntmps86 rfl fun x w hp => ?_
  (refine CC.openL (disk_eq p _) (by repeat (first | exact .head _ | apply Pick.tail | apply Upd.tail)) ?_; rintro ⟨sb, sc, la, lc⟩ -)
  repeat (first | refine CX.psA ?_ | refine CX.nil ?_ | refine CQ.thenN ?_ | refine CQ.thenR ?_ | refine CQ.thenX ?_ | refine CQ.blockN ?_ | refine CQ.blockR ?_ | refine CQ.blockX ?_ | refine CQ.blockYA ?_ | refine CC.seq ?_ | refine CC.block ?_ | refine CC.region ?_ | refine CC.skip ?_ | refine CC.ret ?_ | refine CC.exit ?_ | refine CC.condTA ?_ | refine CC.condFA ?_ | refine CC.condDTA ?_ | refine CC.condDFA ?_ | refine CX.storeA ?_ | refine CX.skipA ?_)
  (refine CQ.shutL (disk_eq p D) (_, _, _, _) trivial (by repeat (first | exact Sel.nil _ | (apply Sel.cons; (· repeat (first | exact .head _ | apply Pick.tail | apply Upd.tail))))) ?_)
  ((apply CQ.end1; (· rfl); (· exact .tmp rfl)); (· exact ⟨rfl, rfl⟩); (· repeat (first | exact Sel.nil _ | (apply Sel.cons; (· repeat (first | exact .head _ | apply Pick.tail | apply Upd.tail))))))

theorem there_c (p : Nat) (D : DS) (n : Int) : Ctr Try.prog 87 [.pointer (some ⟨p, 0, none⟩), .int .i64 n] [disk p D] (fun _ => True) (fun v M => v = .int .i64 (D.there n) ∧ M = [disk p D]) := by
  refine Ctr.intro Try.func87 rfl Try.ntmps87 rfl fun x w hp => ?_
  repeat (first | refine CX.psA ?_ | refine CX.nil ?_ | refine CQ.thenN ?_ | refine CQ.thenR ?_ | refine CQ.thenX ?_ | refine CQ.blockN ?_ | refine CQ.blockR ?_ | refine CQ.blockX ?_ | refine CQ.blockYA ?_ | refine CC.seq ?_ | refine CC.block ?_ | refine CC.region ?_ | refine CC.skip ?_ | refine CC.ret ?_ | refine CC.exit ?_ | refine CC.condTA ?_ | refine CC.condFA ?_ | refine CC.condDTA ?_ | refine CC.condDFA ?_ | refine CX.storeA ?_ | refine CX.skipA ?_)
  refine CX.callA (none_c p D) ?_
  rintro _ _ ⟨rfl, rfl⟩
  (refine CX.openL (disk_eq p _) (by repeat (first | exact .head _ | apply Pick.tail | apply Upd.tail)) ?_; rintro ⟨sb, sc, la, lc⟩ -)
  by_cases h1 : n < 0
  · repeat (first | refine CX.psA ?_ | refine CX.nil ?_ | refine CQ.thenN ?_ | refine CQ.thenR ?_ | refine CQ.thenX ?_ | refine CQ.blockN ?_ | refine CQ.blockR ?_ | refine CQ.blockX ?_ | refine CQ.blockYA ?_ | refine CC.seq ?_ | refine CC.block ?_ | refine CC.region ?_ | refine CC.skip ?_ | refine CC.ret ?_ | refine CC.exit ?_ | refine CC.condTA ?_ | refine CC.condFA ?_ | refine CC.condDTA ?_ | refine CC.condDFA ?_ | refine CX.storeA ?_ | refine CX.skipA ?_)
    (refine CQ.shutL (disk_eq p D) (_, _, _, _) trivial (by repeat (first | exact Sel.nil _ | (apply Sel.cons; (· repeat (first | exact .head _ | apply Pick.tail | apply Upd.tail))))) ?_)
    ((apply CQ.end1; (· rfl); (· exact .tmp rfl)); (· exact ⟨by simp [DS.there, errOf]; omega, rfl⟩); (· repeat (first | exact Sel.nil _ | (apply Sel.cons; (· repeat (first | exact .head _ | apply Pick.tail | apply Upd.tail))))))
  by_cases h2 : (D.sure.length : Int) ≤ n
  · repeat (first | refine CX.psA ?_ | refine CX.nil ?_ | refine CQ.thenN ?_ | refine CQ.thenR ?_ | refine CQ.thenX ?_ | refine CQ.blockN ?_ | refine CQ.blockR ?_ | refine CQ.blockX ?_ | refine CQ.blockYA ?_ | refine CC.seq ?_ | refine CC.block ?_ | refine CC.region ?_ | refine CC.skip ?_ | refine CC.ret ?_ | refine CC.exit ?_ | refine CC.condTA ?_ | refine CC.condFA ?_ | refine CC.condDTA ?_ | refine CC.condDFA ?_ | refine CX.storeA ?_ | refine CX.skipA ?_)
    (refine CQ.shutL (disk_eq p D) (_, _, _, _) trivial (by repeat (first | exact Sel.nil _ | (apply Sel.cons; (· repeat (first | exact .head _ | apply Pick.tail | apply Upd.tail))))) ?_)
    ((apply CQ.end1; (· rfl); (· exact .tmp rfl)); (· exact ⟨by simp [DS.there, errOf]; omega, rfl⟩); (· repeat (first | exact Sel.nil _ | (apply Sel.cons; (· repeat (first | exact .head _ | apply Pick.tail | apply Upd.tail))))))
  · repeat (first | refine CX.psA ?_ | refine CX.nil ?_ | refine CQ.thenN ?_ | refine CQ.thenR ?_ | refine CQ.thenX ?_ | refine CQ.blockN ?_ | refine CQ.blockR ?_ | refine CQ.blockX ?_ | refine CQ.blockYA ?_ | refine CC.seq ?_ | refine CC.block ?_ | refine CC.region ?_ | refine CC.skip ?_ | refine CC.ret ?_ | refine CC.exit ?_ | refine CC.condTA ?_ | refine CC.condFA ?_ | refine CC.condDTA ?_ | refine CC.condDFA ?_ | refine CX.storeA ?_ | refine CX.skipA ?_)
    (refine CQ.shutL (disk_eq p D) (_, _, _, _) trivial (by repeat (first | exact Sel.nil _ | (apply Sel.cons; (· repeat (first | exact .head _ | apply Pick.tail | apply Upd.tail))))) ?_)
    ((apply CQ.end1; (· rfl); (· exact .tmp rfl)); (· exact ⟨by simp [DS.there, errOf]; omega, rfl⟩); (· repeat (first | exact Sel.nil _ | (apply Sel.cons; (· repeat (first | exact .head _ | apply Pick.tail | apply Upd.tail))))))

theorem lit_c (p : Nat) (D : DS) (n : Int) : Ctr Try.prog 83 [.pointer (some ⟨p, 0, none⟩), .int .i64 n] [disk p D] (fun _ => True) (fun v M => v = .int .i64 (D.lit n) ∧ M = [disk p D]) := by
  obtain ⟨S, l, left, steps, dark⟩ := D
  refine Ctr.intro Try.func83 rfl Try.ntmps83 rfl fun x w hp => ?_
  repeat (first | refine CX.psA ?_ | refine CX.nil ?_ | refine CQ.thenN ?_ | refine CQ.thenR ?_ | refine CQ.thenX ?_ | refine CQ.blockN ?_ | refine CQ.blockR ?_ | refine CQ.blockX ?_ | refine CQ.blockYA ?_ | refine CC.seq ?_ | refine CC.block ?_ | refine CC.region ?_ | refine CC.skip ?_ | refine CC.ret ?_ | refine CC.exit ?_ | refine CC.condTA ?_ | refine CC.condFA ?_ | refine CC.condDTA ?_ | refine CC.condDFA ?_ | refine CX.storeA ?_ | refine CX.skipA ?_)
  refine CX.callA (none_c p _) ?_
  rintro _ _ ⟨rfl, rfl⟩
  (refine CX.openL (disk_eq p _) (by repeat (first | exact .head _ | apply Pick.tail | apply Upd.tail)) ?_; rintro ⟨sb, sc, la, lc⟩ -)
  cases dark
  · repeat (first | refine CX.psA ?_ | refine CX.nil ?_ | refine CQ.thenN ?_ | refine CQ.thenR ?_ | refine CQ.thenX ?_ | refine CQ.blockN ?_ | refine CQ.blockR ?_ | refine CQ.blockX ?_ | refine CQ.blockYA ?_ | refine CC.seq ?_ | refine CC.block ?_ | refine CC.region ?_ | refine CC.skip ?_ | refine CC.ret ?_ | refine CC.exit ?_ | refine CC.condTA ?_ | refine CC.condFA ?_ | refine CC.condDTA ?_ | refine CC.condDFA ?_ | refine CX.storeA ?_ | refine CX.skipA ?_)
    (refine CX.shutL (disk_eq p ⟨S, l, left, steps, false⟩) (_, _, _, _) trivial (by repeat (first | exact Sel.nil _ | (apply Sel.cons; (· repeat (first | exact .head _ | apply Pick.tail | apply Upd.tail))))) ?_)
    refine CX.callA (there_c p _ n) ?_
    rintro _ _ ⟨rfl, rfl⟩
    repeat (first | refine CX.psA ?_ | refine CX.nil ?_ | refine CQ.thenN ?_ | refine CQ.thenR ?_ | refine CQ.thenX ?_ | refine CQ.blockN ?_ | refine CQ.blockR ?_ | refine CQ.blockX ?_ | refine CQ.blockYA ?_ | refine CC.seq ?_ | refine CC.block ?_ | refine CC.region ?_ | refine CC.skip ?_ | refine CC.ret ?_ | refine CC.exit ?_ | refine CC.condTA ?_ | refine CC.condFA ?_ | refine CC.condDTA ?_ | refine CC.condDFA ?_ | refine CX.storeA ?_ | refine CX.skipA ?_)
    ((apply CQ.end1; (· rfl); (· exact .tmp rfl)); (· exact ⟨rfl, rfl⟩); (· repeat (first | exact Sel.nil _ | (apply Sel.cons; (· repeat (first | exact .head _ | apply Pick.tail | apply Upd.tail))))))
  · repeat (first | refine CX.psA ?_ | refine CX.nil ?_ | refine CQ.thenN ?_ | refine CQ.thenR ?_ | refine CQ.thenX ?_ | refine CQ.blockN ?_ | refine CQ.blockR ?_ | refine CQ.blockX ?_ | refine CQ.blockYA ?_ | refine CC.seq ?_ | refine CC.block ?_ | refine CC.region ?_ | refine CC.skip ?_ | refine CC.ret ?_ | refine CC.exit ?_ | refine CC.condTA ?_ | refine CC.condFA ?_ | refine CC.condDTA ?_ | refine CC.condDFA ?_ | refine CX.storeA ?_ | refine CX.skipA ?_)
    (refine CQ.shutL (disk_eq p ⟨S, l, left, steps, true⟩) (_, _, _, _) trivial (by repeat (first | exact Sel.nil _ | (apply Sel.cons; (· repeat (first | exact .head _ | apply Pick.tail | apply Upd.tail))))) ?_)
    ((apply CQ.end1; (· rfl); (· exact .tmp rfl)); (· exact ⟨rfl, rfl⟩); (· repeat (first | exact Sel.nil _ | (apply Sel.cons; (· repeat (first | exact .head _ | apply Pick.tail | apply Upd.tail))))))

theorem step_c (p : Nat) (D : DS) {N : Nat} (h : D.wf N) (hN : N < 1000000) : Ctr Try.prog 84 [.pointer (some ⟨p, 0, none⟩)] [disk p D] (fun _ => True) (fun v M => v = .int .i64 D.step.1 ∧ M = [disk p D.step.2]) := by
  have hl0 := h.left0
  have hl1 := h.left1
  have hs := h.steps
  obtain ⟨S, l, left, steps, dark⟩ := D
  simp only at hl0 hl1 hs
  refine Ctr.intro Try.func84 rfl Try.ntmps84 rfl fun x w hp => ?_
  (refine CC.openL (disk_eq p _) (by repeat (first | exact .head _ | apply Pick.tail | apply Upd.tail)) ?_; rintro ⟨sb, sc, la, lc⟩ -)
  by_cases h1 : left = 1
  · subst h1
    repeat (first | refine CX.psA ?_ | refine CX.nil ?_ | refine CQ.thenN ?_ | refine CQ.thenR ?_ | refine CQ.thenX ?_ | refine CQ.blockN ?_ | refine CQ.blockR ?_ | refine CQ.blockX ?_ | refine CQ.blockYA ?_ | refine CC.seq ?_ | refine CC.block ?_ | refine CC.region ?_ | refine CC.skip ?_ | refine CC.ret ?_ | refine CC.exit ?_ | refine CC.condTA ?_ | refine CC.condFA ?_ | refine CC.condDTA ?_ | refine CC.condDFA ?_ | refine CX.storeA ?_ | refine CX.skipA ?_)
    (refine CQ.shutL (disk_eq p ⟨S, l, 1, steps, true⟩) (_, _, _, _) trivial (by repeat (first | exact Sel.nil _ | (apply Sel.cons; (· repeat (first | exact .head _ | apply Pick.tail | apply Upd.tail))))) ?_)
    ((apply CQ.end1; (· rfl); (· exact .tmp rfl)); (· exact ⟨rfl, rfl⟩); (· repeat (first | exact Sel.nil _ | (apply Sel.cons; (· repeat (first | exact .head _ | apply Pick.tail | apply Upd.tail))))))
  · repeat (first | refine CX.psA ?_ | refine CX.nil ?_ | refine CQ.thenN ?_ | refine CQ.thenR ?_ | refine CQ.thenX ?_ | refine CQ.blockN ?_ | refine CQ.blockR ?_ | refine CQ.blockX ?_ | refine CQ.blockYA ?_ | refine CC.seq ?_ | refine CC.block ?_ | refine CC.region ?_ | refine CC.skip ?_ | refine CC.ret ?_ | refine CC.exit ?_ | refine CC.condTA ?_ | refine CC.condFA ?_ | refine CC.condDTA ?_ | refine CC.condDFA ?_ | refine CX.storeA ?_ | refine CX.skipA ?_)
    (refine CQ.shutL (disk_eq p ⟨S, l, max (left - 1) 0, steps + 1, dark⟩) (_, _, _, _) trivial (by repeat (first | exact Sel.nil _ | (apply Sel.cons; (· repeat (first | exact .head _ | apply Pick.tail | apply Upd.tail))))) ?_)
    (apply CQ.end1; (· rfl); (· exact .tmp rfl))
    · exact ⟨by simp [DS.step, h1], rfl⟩
    · simp only [DS.step, h1, if_false]; repeat (first | exact Sel.nil _ | (apply Sel.cons; (· repeat (first | exact .head _ | apply Pick.tail | apply Upd.tail))))

theorem blocks_c (p : Nat) (D : DS) : Ctr Try.prog 61 [.pointer (some ⟨p, 0, none⟩)] [disk p D] (fun _ => True) (fun v M => v = .int .i64 D.sure.length ∧ M = [disk p D]) := by
  refine Ctr.intro Try.func61 rfl Try.ntmps61 rfl fun x w hp => ?_
  repeat (first | refine CX.psA ?_ | refine CX.nil ?_ | refine CQ.thenN ?_ | refine CQ.thenR ?_ | refine CQ.thenX ?_ | refine CQ.blockN ?_ | refine CQ.blockR ?_ | refine CQ.blockX ?_ | refine CQ.blockYA ?_ | refine CC.seq ?_ | refine CC.block ?_ | refine CC.region ?_ | refine CC.skip ?_ | refine CC.ret ?_ | refine CC.exit ?_ | refine CC.condTA ?_ | refine CC.condFA ?_ | refine CC.condDTA ?_ | refine CC.condDFA ?_ | refine CX.storeA ?_ | refine CX.skipA ?_)
  refine CX.callA (none_c p _) ?_
  rintro _ _ ⟨rfl, rfl⟩
  (refine CX.openL (disk_eq p _) (by repeat (first | exact .head _ | apply Pick.tail | apply Upd.tail)) ?_; rintro ⟨sb, sc, la, lc⟩ -)
  repeat (first | refine CX.psA ?_ | refine CX.nil ?_ | refine CQ.thenN ?_ | refine CQ.thenR ?_ | refine CQ.thenX ?_ | refine CQ.blockN ?_ | refine CQ.blockR ?_ | refine CQ.blockX ?_ | refine CQ.blockYA ?_ | refine CC.seq ?_ | refine CC.block ?_ | refine CC.region ?_ | refine CC.skip ?_ | refine CC.ret ?_ | refine CC.exit ?_ | refine CC.condTA ?_ | refine CC.condFA ?_ | refine CC.condDTA ?_ | refine CC.condDFA ?_ | refine CX.storeA ?_ | refine CX.skipA ?_)
  (refine CQ.shutL (disk_eq p D) (_, _, _, _) trivial (by repeat (first | exact Sel.nil _ | (apply Sel.cons; (· repeat (first | exact .head _ | apply Pick.tail | apply Upd.tail))))) ?_)
  ((apply CQ.end1; (· rfl); (· exact .tmp rfl)); (· exact ⟨rfl, rfl⟩); (· repeat (first | exact Sel.nil _ | (apply Sel.cons; (· repeat (first | exact .head _ | apply Pick.tail | apply Upd.tail))))))
theorem steps_c (p : Nat) (D : DS) : Ctr Try.prog 26 [.pointer (some ⟨p, 0, none⟩)] [disk p D] (fun _ => True) (fun v M => v = .int .i64 D.steps ∧ M = [disk p D]) := by
  refine Ctr.intro Try.func26 rfl Try.ntmps26 rfl fun x w hp => ?_
  repeat (first | refine CX.psA ?_ | refine CX.nil ?_ | refine CQ.thenN ?_ | refine CQ.thenR ?_ | refine CQ.thenX ?_ | refine CQ.blockN ?_ | refine CQ.blockR ?_ | refine CQ.blockX ?_ | refine CQ.blockYA ?_ | refine CC.seq ?_ | refine CC.block ?_ | refine CC.region ?_ | refine CC.skip ?_ | refine CC.ret ?_ | refine CC.exit ?_ | refine CC.condTA ?_ | refine CC.condFA ?_ | refine CC.condDTA ?_ | refine CC.condDFA ?_ | refine CX.storeA ?_ | refine CX.skipA ?_)
  refine CX.callA (none_c p _) ?_
  rintro _ _ ⟨rfl, rfl⟩
  (refine CX.openL (disk_eq p _) (by repeat (first | exact .head _ | apply Pick.tail | apply Upd.tail)) ?_; rintro ⟨sb, sc, la, lc⟩ -)
  repeat (first | refine CX.psA ?_ | refine CX.nil ?_ | refine CQ.thenN ?_ | refine CQ.thenR ?_ | refine CQ.thenX ?_ | refine CQ.blockN ?_ | refine CQ.blockR ?_ | refine CQ.blockX ?_ | refine CQ.blockYA ?_ | refine CC.seq ?_ | refine CC.block ?_ | refine CC.region ?_ | refine CC.skip ?_ | refine CC.ret ?_ | refine CC.exit ?_ | refine CC.condTA ?_ | refine CC.condFA ?_ | refine CC.condDTA ?_ | refine CC.condDFA ?_ | refine CX.storeA ?_ | refine CX.skipA ?_)
  (refine CQ.shutL (disk_eq p D) (_, _, _, _) trivial (by repeat (first | exact Sel.nil _ | (apply Sel.cons; (· repeat (first | exact .head _ | apply Pick.tail | apply Upd.tail))))) ?_)
  ((apply CQ.end1; (· rfl); (· exact .tmp rfl)); (· exact ⟨rfl, rfl⟩); (· repeat (first | exact Sel.nil _ | (apply Sel.cons; (· repeat (first | exact .head _ | apply Pick.tail | apply Upd.tail))))))
theorem loose_c (p : Nat) (D : DS) : Ctr Try.prog 32 [.pointer (some ⟨p, 0, none⟩)] [disk p D] (fun _ => True) (fun v M => v = .int .i64 D.loose.length ∧ M = [disk p D]) := by
  refine Ctr.intro Try.func32 rfl Try.ntmps32 rfl fun x w hp => ?_
  repeat (first | refine CX.psA ?_ | refine CX.nil ?_ | refine CQ.thenN ?_ | refine CQ.thenR ?_ | refine CQ.thenX ?_ | refine CQ.blockN ?_ | refine CQ.blockR ?_ | refine CQ.blockX ?_ | refine CQ.blockYA ?_ | refine CC.seq ?_ | refine CC.block ?_ | refine CC.region ?_ | refine CC.skip ?_ | refine CC.ret ?_ | refine CC.exit ?_ | refine CC.condTA ?_ | refine CC.condFA ?_ | refine CC.condDTA ?_ | refine CC.condDFA ?_ | refine CX.storeA ?_ | refine CX.skipA ?_)
  refine CX.callA (none_c p _) ?_
  rintro _ _ ⟨rfl, rfl⟩
  (refine CX.openL (disk_eq p _) (by repeat (first | exact .head _ | apply Pick.tail | apply Upd.tail)) ?_; rintro ⟨sb, sc, la, lc⟩ -)
  repeat (first | refine CX.psA ?_ | refine CX.nil ?_ | refine CQ.thenN ?_ | refine CQ.thenR ?_ | refine CQ.thenX ?_ | refine CQ.blockN ?_ | refine CQ.blockR ?_ | refine CQ.blockX ?_ | refine CQ.blockYA ?_ | refine CC.seq ?_ | refine CC.block ?_ | refine CC.region ?_ | refine CC.skip ?_ | refine CC.ret ?_ | refine CC.exit ?_ | refine CC.condTA ?_ | refine CC.condFA ?_ | refine CC.condDTA ?_ | refine CC.condDFA ?_ | refine CX.storeA ?_ | refine CX.skipA ?_)
  (refine CQ.shutL (disk_eq p D) (_, _, _, _) trivial (by repeat (first | exact Sel.nil _ | (apply Sel.cons; (· repeat (first | exact .head _ | apply Pick.tail | apply Upd.tail))))) ?_)
  ((apply CQ.end1; (· rfl); (· exact .tmp rfl)); (· exact ⟨rfl, rfl⟩); (· repeat (first | exact Sel.nil _ | (apply Sel.cons; (· repeat (first | exact .head _ | apply Pick.tail | apply Upd.tail))))))
theorem dark_c (p : Nat) (D : DS) : Ctr Try.prog 25 [.pointer (some ⟨p, 0, none⟩)] [disk p D] (fun _ => True) (fun v M => v = .bool D.dark ∧ M = [disk p D]) := by
  refine Ctr.intro Try.func25 rfl Try.ntmps25 rfl fun x w hp => ?_
  repeat (first | refine CX.psA ?_ | refine CX.nil ?_ | refine CQ.thenN ?_ | refine CQ.thenR ?_ | refine CQ.thenX ?_ | refine CQ.blockN ?_ | refine CQ.blockR ?_ | refine CQ.blockX ?_ | refine CQ.blockYA ?_ | refine CC.seq ?_ | refine CC.block ?_ | refine CC.region ?_ | refine CC.skip ?_ | refine CC.ret ?_ | refine CC.exit ?_ | refine CC.condTA ?_ | refine CC.condFA ?_ | refine CC.condDTA ?_ | refine CC.condDFA ?_ | refine CX.storeA ?_ | refine CX.skipA ?_)
  refine CX.callA (none_c p _) ?_
  rintro _ _ ⟨rfl, rfl⟩
  (refine CX.openL (disk_eq p _) (by repeat (first | exact .head _ | apply Pick.tail | apply Upd.tail)) ?_; rintro ⟨sb, sc, la, lc⟩ -)
  repeat (first | refine CX.psA ?_ | refine CX.nil ?_ | refine CQ.thenN ?_ | refine CQ.thenR ?_ | refine CQ.thenX ?_ | refine CQ.blockN ?_ | refine CQ.blockR ?_ | refine CQ.blockX ?_ | refine CQ.blockYA ?_ | refine CC.seq ?_ | refine CC.block ?_ | refine CC.region ?_ | refine CC.skip ?_ | refine CC.ret ?_ | refine CC.exit ?_ | refine CC.condTA ?_ | refine CC.condFA ?_ | refine CC.condDTA ?_ | refine CC.condDFA ?_ | refine CX.storeA ?_ | refine CX.skipA ?_)
  (refine CQ.shutL (disk_eq p D) (_, _, _, _) trivial (by repeat (first | exact Sel.nil _ | (apply Sel.cons; (· repeat (first | exact .head _ | apply Pick.tail | apply Upd.tail))))) ?_)
  ((apply CQ.end1; (· rfl); (· exact .tmp rfl)); (· exact ⟨rfl, rfl⟩); (· repeat (first | exact Sel.nil _ | (apply Sel.cons; (· repeat (first | exact .head _ | apply Pick.tail | apply Upd.tail))))))
theorem sure_c (p : Nat) (D : DS) (n : Int) {N : Nat} (h : D.wf N) : Ctr Try.prog 31 [.pointer (some ⟨p, 0, none⟩), .int .i64 n] [disk p D] (fun _ => True) (fun v M => v = .tuple #[.agg (cb (D.sureAt n).1).toArray, .int .i64 (D.sureAt n).2] ∧ M = [disk p D]) := by
  refine Ctr.intro Try.func31 rfl Try.ntmps31 rfl fun x w hp => ?_
  repeat (first | refine CX.psA ?_ | refine CX.nil ?_ | refine CQ.thenN ?_ | refine CQ.thenR ?_ | refine CQ.thenX ?_ | refine CQ.blockN ?_ | refine CQ.blockR ?_ | refine CQ.blockX ?_ | refine CQ.blockYA ?_ | refine CC.seq ?_ | refine CC.block ?_ | refine CC.region ?_ | refine CC.skip ?_ | refine CC.ret ?_ | refine CC.exit ?_ | refine CC.condTA ?_ | refine CC.condFA ?_ | refine CC.condDTA ?_ | refine CC.condDFA ?_ | refine CX.storeA ?_ | refine CX.skipA ?_)
  (refine CX.allocZ (cb zblk) ?_; intro r)
  repeat (first | refine CX.psA ?_ | refine CX.nil ?_ | refine CQ.thenN ?_ | refine CQ.thenR ?_ | refine CQ.thenX ?_ | refine CQ.blockN ?_ | refine CQ.blockR ?_ | refine CQ.blockX ?_ | refine CQ.blockYA ?_ | refine CC.seq ?_ | refine CC.block ?_ | refine CC.region ?_ | refine CC.skip ?_ | refine CC.ret ?_ | refine CC.exit ?_ | refine CC.condTA ?_ | refine CC.condFA ?_ | refine CC.condDTA ?_ | refine CC.condDFA ?_ | refine CX.storeA ?_ | refine CX.skipA ?_)
  refine CX.callA (there_c p D n) ?_
  rintro _ _ ⟨rfl, rfl⟩
  by_cases h0 : D.there n = 0
  · obtain ⟨k, rfl, hk⟩ := there_ok h0
    have hb : WB D.sure[k] := h.wb _ (by simp)
    (refine CX.openL (disk_eq p _) (by repeat (first | exact .head _ | apply Pick.tail | apply Upd.tail)) ?_; rintro ⟨sb, sc, la, lc⟩ -)
    repeat (first | refine CX.psA ?_ | refine CX.nil ?_ | refine CQ.thenN ?_ | refine CQ.thenR ?_ | refine CQ.thenX ?_ | refine CQ.blockN ?_ | refine CQ.blockR ?_ | refine CQ.blockX ?_ | refine CQ.blockYA ?_ | refine CC.seq ?_ | refine CC.block ?_ | refine CC.region ?_ | refine CC.skip ?_ | refine CC.ret ?_ | refine CC.exit ?_ | refine CC.condTA ?_ | refine CC.condFA ?_ | refine CC.condDTA ?_ | refine CC.condDFA ?_ | refine CX.storeA ?_ | refine CX.skipA ?_)
    refine CX.indexA (k) (by exact hk) ?_
    (apply CX.ps; (· apply PS.loadG (vs := cb D.sure[k]); (· rfl); (· rfl); (· exact CellsAt.own (by repeat (first | exact .head _ | apply Pick.tail | apply Upd.tail)) (sure_at h hk)); (· exact hb.len)))
    (apply CX.storeAll; (· rfl); (· rfl); (· rfl); (· repeat (first | exact .head _ | apply Pick.tail | apply Upd.tail)); (· exact hb.len); (· exact WB_z.len); (· exact one_cb _))
    repeat (first | refine CX.psA ?_ | refine CX.nil ?_ | refine CQ.thenN ?_ | refine CQ.thenR ?_ | refine CQ.thenX ?_ | refine CQ.blockN ?_ | refine CQ.blockR ?_ | refine CQ.blockX ?_ | refine CQ.blockYA ?_ | refine CC.seq ?_ | refine CC.block ?_ | refine CC.region ?_ | refine CC.skip ?_ | refine CC.ret ?_ | refine CC.exit ?_ | refine CC.condTA ?_ | refine CC.condFA ?_ | refine CC.condDTA ?_ | refine CC.condDFA ?_ | refine CX.storeA ?_ | refine CX.skipA ?_)
    (refine CQ.shutL (disk_eq p D) (_, _, _, _) trivial (by repeat (first | exact Sel.nil _ | (apply Sel.cons; (· repeat (first | exact .head _ | apply Pick.tail | apply Upd.tail))))) ?_)
    ((apply CQ.end2; (· rfl); (· exact .cells inferInstance rfl (CellsAt.all (by repeat (first | exact .head _ | apply Pick.tail | apply Upd.tail))) (hb.len)); (· exact .tmp rfl)); (· exact ⟨by simp [DS.sureAt, h0, hk], rfl⟩); (· repeat (first | exact Sel.nil _ | (apply Sel.cons; (· repeat (first | exact .head _ | apply Pick.tail | apply Upd.tail))))))
  · repeat (first | refine CX.psA ?_ | refine CX.nil ?_ | refine CQ.thenN ?_ | refine CQ.thenR ?_ | refine CQ.thenX ?_ | refine CQ.blockN ?_ | refine CQ.blockR ?_ | refine CQ.blockX ?_ | refine CQ.blockYA ?_ | refine CC.seq ?_ | refine CC.block ?_ | refine CC.region ?_ | refine CC.skip ?_ | refine CC.ret ?_ | refine CC.exit ?_ | refine CC.condTA ?_ | refine CC.condFA ?_ | refine CC.condDTA ?_ | refine CC.condDFA ?_ | refine CX.storeA ?_ | refine CX.skipA ?_)
    (apply CX.ps; (· apply PS.buildZ (vs := cb zblk); (· rfl); (· simp [cb_z, Value.cells])))
    repeat (first | refine CX.psA ?_ | refine CX.nil ?_ | refine CQ.thenN ?_ | refine CQ.thenR ?_ | refine CQ.thenX ?_ | refine CQ.blockN ?_ | refine CQ.blockR ?_ | refine CQ.blockX ?_ | refine CQ.blockYA ?_ | refine CC.seq ?_ | refine CC.block ?_ | refine CC.region ?_ | refine CC.skip ?_ | refine CC.ret ?_ | refine CC.exit ?_ | refine CC.condTA ?_ | refine CC.condFA ?_ | refine CC.condDTA ?_ | refine CC.condDFA ?_ | refine CX.storeA ?_ | refine CX.skipA ?_)
    (apply CX.storeAll; (· rfl); (· rfl); (· rfl); (· repeat (first | exact .head _ | apply Pick.tail | apply Upd.tail)); (· exact WB_z.len); (· exact WB_z.len); (· exact one_cb _))
    repeat (first | refine CX.psA ?_ | refine CX.nil ?_ | refine CQ.thenN ?_ | refine CQ.thenR ?_ | refine CQ.thenX ?_ | refine CQ.blockN ?_ | refine CQ.blockR ?_ | refine CQ.blockX ?_ | refine CQ.blockYA ?_ | refine CC.seq ?_ | refine CC.block ?_ | refine CC.region ?_ | refine CC.skip ?_ | refine CC.ret ?_ | refine CC.exit ?_ | refine CC.condTA ?_ | refine CC.condFA ?_ | refine CC.condDTA ?_ | refine CC.condDFA ?_ | refine CX.storeA ?_ | refine CX.skipA ?_)
    ((apply CQ.end2; (· rfl); (· exact .cells inferInstance rfl (CellsAt.all (by repeat (first | exact .head _ | apply Pick.tail | apply Upd.tail))) (WB_z.len)); (· exact .tmp rfl)); (· exact ⟨by simp [DS.sureAt, h0], rfl⟩); (· repeat (first | exact Sel.nil _ | (apply Sel.cons; (· repeat (first | exact .head _ | apply Pick.tail | apply Upd.tail))))))
theorem arm_c (p : Nat) (D : DS) (n : Int) : Ctr Try.prog 22 [.pointer (some ⟨p, 0, none⟩), .int .i64 n] [disk p D] (fun _ => True) (fun v M => v = .int .i64 (D.arm n).1 ∧ M = [disk p (D.arm n).2]) := by
  obtain ⟨S, l, left, steps, dark⟩ := D
  refine Ctr.intro Try.func22 rfl Try.ntmps22 rfl fun x w hp => ?_
  repeat (first | refine CX.psA ?_ | refine CX.nil ?_ | refine CQ.thenN ?_ | refine CQ.thenR ?_ | refine CQ.thenX ?_ | refine CQ.blockN ?_ | refine CQ.blockR ?_ | refine CQ.blockX ?_ | refine CQ.blockYA ?_ | refine CC.seq ?_ | refine CC.block ?_ | refine CC.region ?_ | refine CC.skip ?_ | refine CC.ret ?_ | refine CC.exit ?_ | refine CC.condTA ?_ | refine CC.condFA ?_ | refine CC.condDTA ?_ | refine CC.condDFA ?_ | refine CX.storeA ?_ | refine CX.skipA ?_)
  refine CX.callA (lit_c p _ 0) ?_
  rintro _ _ ⟨rfl, rfl⟩
  by_cases h0 : DS.lit ⟨S, l, left, steps, dark⟩ 0 = 0
  · by_cases h1 : n < 0
    · repeat (first | refine CX.psA ?_ | refine CX.nil ?_ | refine CQ.thenN ?_ | refine CQ.thenR ?_ | refine CQ.thenX ?_ | refine CQ.blockN ?_ | refine CQ.blockR ?_ | refine CQ.blockX ?_ | refine CQ.blockYA ?_ | refine CC.seq ?_ | refine CC.block ?_ | refine CC.region ?_ | refine CC.skip ?_ | refine CC.ret ?_ | refine CC.exit ?_ | refine CC.condTA ?_ | refine CC.condFA ?_ | refine CC.condDTA ?_ | refine CC.condDFA ?_ | refine CX.storeA ?_ | refine CX.skipA ?_)
      (apply CQ.end1; (· rfl); (· exact .tmp rfl))
      · exact ⟨by simp [DS.arm, h1, h0], rfl⟩
      · simp only [DS.arm, h1, h0, ne_eq, not_true, if_false, if_true]; repeat (first | exact Sel.nil _ | (apply Sel.cons; (· repeat (first | exact .head _ | apply Pick.tail | apply Upd.tail))))
    · repeat (first | refine CX.psA ?_ | refine CX.nil ?_ | refine CQ.thenN ?_ | refine CQ.thenR ?_ | refine CQ.thenX ?_ | refine CQ.blockN ?_ | refine CQ.blockR ?_ | refine CQ.blockX ?_ | refine CQ.blockYA ?_ | refine CC.seq ?_ | refine CC.block ?_ | refine CC.region ?_ | refine CC.skip ?_ | refine CC.ret ?_ | refine CC.exit ?_ | refine CC.condTA ?_ | refine CC.condFA ?_ | refine CC.condDTA ?_ | refine CC.condDFA ?_ | refine CX.storeA ?_ | refine CX.skipA ?_)
      (refine CX.openL (disk_eq p _) (by repeat (first | exact .head _ | apply Pick.tail | apply Upd.tail)) ?_; rintro ⟨sb, sc, la, lc⟩ -)
      repeat (first | refine CX.psA ?_ | refine CX.nil ?_ | refine CQ.thenN ?_ | refine CQ.thenR ?_ | refine CQ.thenX ?_ | refine CQ.blockN ?_ | refine CQ.blockR ?_ | refine CQ.blockX ?_ | refine CQ.blockYA ?_ | refine CC.seq ?_ | refine CC.block ?_ | refine CC.region ?_ | refine CC.skip ?_ | refine CC.ret ?_ | refine CC.exit ?_ | refine CC.condTA ?_ | refine CC.condFA ?_ | refine CC.condDTA ?_ | refine CC.condDFA ?_ | refine CX.storeA ?_ | refine CX.skipA ?_)
      (refine CQ.shutL (disk_eq p ⟨S, l, n, steps, dark⟩) (_, _, _, _) trivial (by repeat (first | exact Sel.nil _ | (apply Sel.cons; (· repeat (first | exact .head _ | apply Pick.tail | apply Upd.tail))))) ?_)
      (apply CQ.end1; (· rfl); (· exact .tmp rfl))
      · exact ⟨by simp [DS.arm, h1, h0], rfl⟩
      · simp only [DS.arm, h1, h0, ne_eq, not_true, if_false, if_true]; repeat (first | exact Sel.nil _ | (apply Sel.cons; (· repeat (first | exact .head _ | apply Pick.tail | apply Upd.tail))))
  · repeat (first | refine CX.psA ?_ | refine CX.nil ?_ | refine CQ.thenN ?_ | refine CQ.thenR ?_ | refine CQ.thenX ?_ | refine CQ.blockN ?_ | refine CQ.blockR ?_ | refine CQ.blockX ?_ | refine CQ.blockYA ?_ | refine CC.seq ?_ | refine CC.block ?_ | refine CC.region ?_ | refine CC.skip ?_ | refine CC.ret ?_ | refine CC.exit ?_ | refine CC.condTA ?_ | refine CC.condFA ?_ | refine CC.condDTA ?_ | refine CC.condDFA ?_ | refine CX.storeA ?_ | refine CX.skipA ?_)
    (apply CQ.end1; (· rfl); (· exact .tmp rfl))
    · exact ⟨by simp [DS.arm, h0], rfl⟩
    · simp only [DS.arm, h0, ne_eq, not_false_eq_true, if_false, if_true]; repeat (first | exact Sel.nil _ | (apply Sel.cons; (· repeat (first | exact .head _ | apply Pick.tail | apply Upd.tail))))
/-- A disk's parts. -/
abbrev DL (p : Nat) (D : DS) (sb sc : Nat) (la : Option Addr) (lc : Nat) : List Assn :=
    [bk p 89 [.slice (some ⟨sb, 0, none⟩) D.sure.length sc, .slice la D.loose.length lc, .int .i64 D.left, .int .i64 (D.steps : Int), .bool D.dark],
     own 29 128 (some ⟨sb, 0, none⟩) D.sure.length sc (flat D.sure), own 127 129 la D.loose.length lc (flatL D.loose)]
theorem read_c (p : Nat) (D : DS) (n : Int) {N : Nat} (h : D.wf N) (hN : N < 1000000) : Ctr Try.prog 29 [.pointer (some ⟨p, 0, none⟩), .int .i64 n] [disk p D] (fun _ => True) (fun v M => v = .tuple #[.agg (cb (D.read n).1).toArray, .int .i64 (D.read n).2] ∧ M = [disk p D]) := by
  have hlo := h.loose
  have hlb : ∀ p ∈ D.loose, WB p.2 := fun p hp => (h.lb p hp).2
  refine Ctr.intro Try.func29 rfl Try.ntmps29 rfl fun x w hp => ?_
  repeat (first | refine CX.psA ?_ | refine CX.nil ?_ | refine CQ.thenN ?_ | refine CQ.thenR ?_ | refine CQ.thenX ?_ | refine CQ.blockN ?_ | refine CQ.blockR ?_ | refine CQ.blockX ?_ | refine CQ.blockYA ?_ | refine CC.seq ?_ | refine CC.block ?_ | refine CC.region ?_ | refine CC.skip ?_ | refine CC.ret ?_ | refine CC.exit ?_ | refine CC.condTA ?_ | refine CC.condFA ?_ | refine CC.condDTA ?_ | refine CC.condDFA ?_ | refine CX.storeA ?_ | refine CX.skipA ?_)
  (refine CX.allocZ (cb zblk) ?_; intro r)
  repeat (first | refine CX.psA ?_ | refine CX.nil ?_ | refine CQ.thenN ?_ | refine CQ.thenR ?_ | refine CQ.thenX ?_ | refine CQ.blockN ?_ | refine CQ.blockR ?_ | refine CQ.blockX ?_ | refine CQ.blockYA ?_ | refine CC.seq ?_ | refine CC.block ?_ | refine CC.region ?_ | refine CC.skip ?_ | refine CC.ret ?_ | refine CC.exit ?_ | refine CC.condTA ?_ | refine CC.condFA ?_ | refine CC.condDTA ?_ | refine CC.condDFA ?_ | refine CX.storeA ?_ | refine CX.skipA ?_)
  refine CX.callA (lit_c p D n) ?_
  rintro _ _ ⟨rfl, rfl⟩
  by_cases h0 : D.lit n = 0
  · have h1 : D.there n = 0 := by unfold DS.lit at h0; split at h0; cases h0; exact h0
    obtain ⟨k, rfl, hk⟩ := there_ok h1
    have hb : WB D.sure[k] := h.wb _ (by simp)
    have hr : D.read k = (match lastOf D.loose k with | some p => p.2 | none => D.sure[k], 0) := by simp [DS.read, h0, DS.get, lastOf, hk]; rfl
    (refine CX.openL (disk_eq p _) (by repeat (first | exact .head _ | apply Pick.tail | apply Upd.tail)) ?_; rintro ⟨sb, sc, la, lc⟩ -)
    repeat (first | refine CX.psA ?_ | refine CX.nil ?_ | refine CQ.thenN ?_ | refine CQ.thenR ?_ | refine CQ.thenX ?_ | refine CQ.blockN ?_ | refine CQ.blockR ?_ | refine CQ.blockX ?_ | refine CQ.blockYA ?_ | refine CC.seq ?_ | refine CC.block ?_ | refine CC.region ?_ | refine CC.skip ?_ | refine CC.ret ?_ | refine CC.exit ?_ | refine CC.condTA ?_ | refine CC.condFA ?_ | refine CC.condDTA ?_ | refine CC.condDFA ?_ | refine CX.storeA ?_ | refine CX.skipA ?_)
    refine CC.loop (X := Nat) (fun m => [(7, .int .i64 ((m : Int) - 1)), (0, .pointer (some ⟨p, 0, none⟩)), (1, .int .i64 (k : Int)), (4, .pointer (some ⟨r, 0, none⟩))]) (fun _ => DL p D sb sc la lc ++ [bk r 29 (cb zblk), exact x])
      (fun m => m ≤ D.loose.length ∧ lastOf D.loose k = lastOf (D.loose.take m) k) (fun m => m) D.loose.length ⟨Nat.le_refl _, by simp⟩ ⟨rfl, rfl, rfl, rfl, trivial⟩ (by repeat (first | exact Sel.nil _ | (apply Sel.cons; (· repeat (first | exact .head _ | apply Pick.tail | apply Upd.tail))))) ?_
    rintro (_ | j) ⟨hj, hg⟩
    · repeat (first | refine CX.psA ?_ | refine CX.nil ?_ | refine CQ.thenN ?_ | refine CQ.thenR ?_ | refine CQ.thenX ?_ | refine CQ.blockN ?_ | refine CQ.blockR ?_ | refine CQ.blockX ?_ | refine CQ.blockYA ?_ | refine CC.seq ?_ | refine CC.block ?_ | refine CC.region ?_ | refine CC.skip ?_ | refine CC.ret ?_ | refine CC.exit ?_ | refine CC.condTA ?_ | refine CC.condFA ?_ | refine CC.condDTA ?_ | refine CC.condDFA ?_ | refine CX.storeA ?_ | refine CX.skipA ?_)
      refine CX.indexA (k) (by exact hk) ?_
      (apply CX.ps; (· apply PS.loadG (vs := cb D.sure[k]); (· rfl); (· rfl); (· exact CellsAt.own (by repeat (first | exact .head _ | apply Pick.tail | apply Upd.tail)) (sure_at h hk)); (· exact hb.len)))
      (apply CX.storeAll; (· rfl); (· rfl); (· rfl); (· repeat (first | exact .head _ | apply Pick.tail | apply Upd.tail)); (· exact hb.len); (· exact WB_z.len); (· exact one_cb _))
      repeat (first | refine CX.psA ?_ | refine CX.nil ?_ | refine CQ.thenN ?_ | refine CQ.thenR ?_ | refine CQ.thenX ?_ | refine CQ.blockN ?_ | refine CQ.blockR ?_ | refine CQ.blockX ?_ | refine CQ.blockYA ?_ | refine CC.seq ?_ | refine CC.block ?_ | refine CC.region ?_ | refine CC.skip ?_ | refine CC.ret ?_ | refine CC.exit ?_ | refine CC.condTA ?_ | refine CC.condFA ?_ | refine CC.condDTA ?_ | refine CC.condDFA ?_ | refine CX.storeA ?_ | refine CX.skipA ?_)
      (refine CQ.shutL (disk_eq p D) (_, _, _, _) trivial (by repeat (first | exact Sel.nil _ | (apply Sel.cons; (· repeat (first | exact .head _ | apply Pick.tail | apply Upd.tail))))) ?_)
      ((apply CQ.end2; (· rfl); (· exact .cells inferInstance rfl (CellsAt.all (by repeat (first | exact .head _ | apply Pick.tail | apply Upd.tail))) (hb.len)); (· exact .tmp rfl)); (· exact ⟨by rw [hr, hg]; simp [lastOf], rfl⟩); (· repeat (first | exact Sel.nil _ | (apply Sel.cons; (· repeat (first | exact .head _ | apply Pick.tail | apply Upd.tail))))))
    · have hjl : j < D.loose.length := by omega
      rw [lastOf_succ _ _ _ hjl] at hg
      have hb' : WB D.loose[j].2 := hlb _ (by simp)
      repeat (first | refine CX.psA ?_ | refine CX.nil ?_ | refine CQ.thenN ?_ | refine CQ.thenR ?_ | refine CQ.thenX ?_ | refine CQ.blockN ?_ | refine CQ.blockR ?_ | refine CQ.blockX ?_ | refine CQ.blockYA ?_ | refine CC.seq ?_ | refine CC.block ?_ | refine CC.region ?_ | refine CC.skip ?_ | refine CC.ret ?_ | refine CC.exit ?_ | refine CC.condTA ?_ | refine CC.condFA ?_ | refine CC.condDTA ?_ | refine CC.condDFA ?_ | refine CX.storeA ?_ | refine CX.skipA ?_)
      (refine CX.indexOA (j) (by exact hjl) ?_; rintro g rfl)
      repeat (first | refine CX.psA ?_ | refine CX.nil ?_ | refine CQ.thenN ?_ | refine CQ.thenR ?_ | refine CQ.thenX ?_ | refine CQ.blockN ?_ | refine CQ.blockR ?_ | refine CQ.blockX ?_ | refine CQ.blockYA ?_ | refine CC.seq ?_ | refine CC.block ?_ | refine CC.region ?_ | refine CC.skip ?_ | refine CC.ret ?_ | refine CC.exit ?_ | refine CC.condTA ?_ | refine CC.condFA ?_ | refine CC.condDTA ?_ | refine CC.condDFA ?_ | refine CX.storeA ?_ | refine CX.skipA ?_)
      (apply CX.ps; (· apply PS.load (v := .int .i64 (D.loose[j].1 : Int)); (· rfl); (· rfl); (· exact CellAt.own (by repeat (first | exact .head _ | apply Pick.tail | apply Upd.tail)) (flatL_n _ hlb j hjl))))
      by_cases he : D.loose[j].1 = k
      · have he' : (D.loose[j].1 : Int) = k := by omega
        repeat (first | refine CX.psA ?_ | refine CX.nil ?_ | refine CQ.thenN ?_ | refine CQ.thenR ?_ | refine CQ.thenX ?_ | refine CQ.blockN ?_ | refine CQ.blockR ?_ | refine CQ.blockX ?_ | refine CQ.blockYA ?_ | refine CC.seq ?_ | refine CC.block ?_ | refine CC.region ?_ | refine CC.skip ?_ | refine CC.ret ?_ | refine CC.exit ?_ | refine CC.condTA ?_ | refine CC.condFA ?_ | refine CC.condDTA ?_ | refine CC.condDFA ?_ | refine CX.storeA ?_ | refine CX.skipA ?_)
        refine CX.indexA (j) (by exact hjl) ?_
        repeat (first | refine CX.psA ?_ | refine CX.nil ?_ | refine CQ.thenN ?_ | refine CQ.thenR ?_ | refine CQ.thenX ?_ | refine CQ.blockN ?_ | refine CQ.blockR ?_ | refine CQ.blockX ?_ | refine CQ.blockYA ?_ | refine CC.seq ?_ | refine CC.block ?_ | refine CC.region ?_ | refine CC.skip ?_ | refine CC.ret ?_ | refine CC.exit ?_ | refine CC.condTA ?_ | refine CC.condFA ?_ | refine CC.condDTA ?_ | refine CC.condDFA ?_ | refine CX.storeA ?_ | refine CX.skipA ?_)
        (apply CX.ps; (· apply PS.loadG (vs := cb D.loose[j].2); (· rfl); (· rfl); (· exact CellsAt.own (by repeat (first | exact .head _ | apply Pick.tail | apply Upd.tail)) (by rw [hb'.len, Nat.zero_add]; exact flatL_b _ hlb j hjl)); (· exact hb'.len)))
        (apply CX.storeAll; (· rfl); (· rfl); (· rfl); (· repeat (first | exact .head _ | apply Pick.tail | apply Upd.tail)); (· exact hb'.len); (· exact WB_z.len); (· exact one_cb _))
        repeat (first | refine CX.psA ?_ | refine CX.nil ?_ | refine CQ.thenN ?_ | refine CQ.thenR ?_ | refine CQ.thenX ?_ | refine CQ.blockN ?_ | refine CQ.blockR ?_ | refine CQ.blockX ?_ | refine CQ.blockYA ?_ | refine CC.seq ?_ | refine CC.block ?_ | refine CC.region ?_ | refine CC.skip ?_ | refine CC.ret ?_ | refine CC.exit ?_ | refine CC.condTA ?_ | refine CC.condFA ?_ | refine CC.condDTA ?_ | refine CC.condDFA ?_ | refine CX.storeA ?_ | refine CX.skipA ?_)
        (refine CQ.shutL (disk_eq p D) (_, _, _, _) trivial (by repeat (first | exact Sel.nil _ | (apply Sel.cons; (· repeat (first | exact .head _ | apply Pick.tail | apply Upd.tail))))) ?_)
        ((apply CQ.end2; (· rfl); (· exact .cells inferInstance rfl (CellsAt.all (by repeat (first | exact .head _ | apply Pick.tail | apply Upd.tail))) (hb'.len)); (· exact .tmp rfl)); (· exact ⟨by rw [hr, hg]; simp [he], rfl⟩); (· repeat (first | exact Sel.nil _ | (apply Sel.cons; (· repeat (first | exact .head _ | apply Pick.tail | apply Upd.tail))))))
      · have he' : ¬ (D.loose[j].1 : Int) = k := by omega
        repeat (first | refine CX.psA ?_ | refine CX.nil ?_ | refine CQ.thenN ?_ | refine CQ.thenR ?_ | refine CQ.thenX ?_ | refine CQ.blockN ?_ | refine CQ.blockR ?_ | refine CQ.blockX ?_ | refine CQ.blockYA ?_ | refine CC.seq ?_ | refine CC.block ?_ | refine CC.region ?_ | refine CC.skip ?_ | refine CC.ret ?_ | refine CC.exit ?_ | refine CC.condTA ?_ | refine CC.condFA ?_ | refine CC.condDTA ?_ | refine CC.condDFA ?_ | refine CX.storeA ?_ | refine CX.skipA ?_)
        refine CQ.round j ⟨by omega, by rw [hg, if_neg he]⟩ (Nat.lt_succ_self _) ⟨eqI (by omega), rfl, rfl, rfl, trivial⟩ (by repeat (first | exact Sel.nil _ | (apply Sel.cons; (· repeat (first | exact .head _ | apply Pick.tail | apply Upd.tail)))))
  · repeat (first | refine CX.psA ?_ | refine CX.nil ?_ | refine CQ.thenN ?_ | refine CQ.thenR ?_ | refine CQ.thenX ?_ | refine CQ.blockN ?_ | refine CQ.blockR ?_ | refine CQ.blockX ?_ | refine CQ.blockYA ?_ | refine CC.seq ?_ | refine CC.block ?_ | refine CC.region ?_ | refine CC.skip ?_ | refine CC.ret ?_ | refine CC.exit ?_ | refine CC.condTA ?_ | refine CC.condFA ?_ | refine CC.condDTA ?_ | refine CC.condDFA ?_ | refine CX.storeA ?_ | refine CX.skipA ?_)
    (apply CX.ps; (· apply PS.buildZ (vs := cb zblk); (· rfl); (· simp [cb_z, Value.cells])))
    repeat (first | refine CX.psA ?_ | refine CX.nil ?_ | refine CQ.thenN ?_ | refine CQ.thenR ?_ | refine CQ.thenX ?_ | refine CQ.blockN ?_ | refine CQ.blockR ?_ | refine CQ.blockX ?_ | refine CQ.blockYA ?_ | refine CC.seq ?_ | refine CC.block ?_ | refine CC.region ?_ | refine CC.skip ?_ | refine CC.ret ?_ | refine CC.exit ?_ | refine CC.condTA ?_ | refine CC.condFA ?_ | refine CC.condDTA ?_ | refine CC.condDFA ?_ | refine CX.storeA ?_ | refine CX.skipA ?_)
    (apply CX.storeAll; (· rfl); (· rfl); (· rfl); (· repeat (first | exact .head _ | apply Pick.tail | apply Upd.tail)); (· exact WB_z.len); (· exact WB_z.len); (· exact one_cb _))
    repeat (first | refine CX.psA ?_ | refine CX.nil ?_ | refine CQ.thenN ?_ | refine CQ.thenR ?_ | refine CQ.thenX ?_ | refine CQ.blockN ?_ | refine CQ.blockR ?_ | refine CQ.blockX ?_ | refine CQ.blockYA ?_ | refine CC.seq ?_ | refine CC.block ?_ | refine CC.region ?_ | refine CC.skip ?_ | refine CC.ret ?_ | refine CC.exit ?_ | refine CC.condTA ?_ | refine CC.condFA ?_ | refine CC.condDTA ?_ | refine CC.condDFA ?_ | refine CX.storeA ?_ | refine CX.skipA ?_)
    ((apply CQ.end2; (· rfl); (· exact .cells inferInstance rfl (CellsAt.all (by repeat (first | exact .head _ | apply Pick.tail | apply Upd.tail))) (WB_z.len)); (· exact .tmp rfl)); (· exact ⟨by simp [DS.read, h0], rfl⟩); (· repeat (first | exact Sel.nil _ | (apply Sel.cons; (· repeat (first | exact .head _ | apply Pick.tail | apply Upd.tail))))))
theorem write_c (p : Nat) (D : DS) (n : Int) (b : Blk) (hb : WB b) {N : Nat} (h : D.wf N) (hN : N < 1000000) : Ctr Try.prog 24 [.pointer (some ⟨p, 0, none⟩), .int .i64 n, .agg (cb b).toArray] [disk p D] (fun _ => True) (fun v M => v = .int .i64 (D.write n b).1 ∧ M = [disk p (D.write n b).2]) := by
  have hlo := h.loose
  refine Ctr.intro Try.func24 rfl Try.ntmps24 rfl fun x w hp => ?_
  repeat (first | refine CX.psA ?_ | refine CX.nil ?_ | refine CQ.thenN ?_ | refine CQ.thenR ?_ | refine CQ.thenX ?_ | refine CQ.blockN ?_ | refine CQ.blockR ?_ | refine CQ.blockX ?_ | refine CQ.blockYA ?_ | refine CC.seq ?_ | refine CC.block ?_ | refine CC.region ?_ | refine CC.skip ?_ | refine CC.ret ?_ | refine CC.exit ?_ | refine CC.condTA ?_ | refine CC.condFA ?_ | refine CC.condDTA ?_ | refine CC.condDFA ?_ | refine CX.storeA ?_ | refine CX.skipA ?_)
  (refine CX.boxA ?_; intro c)
  repeat (first | refine CX.psA ?_ | refine CX.nil ?_ | refine CQ.thenN ?_ | refine CQ.thenR ?_ | refine CQ.thenX ?_ | refine CQ.blockN ?_ | refine CQ.blockR ?_ | refine CQ.blockX ?_ | refine CQ.blockYA ?_ | refine CC.seq ?_ | refine CC.block ?_ | refine CC.region ?_ | refine CC.skip ?_ | refine CC.ret ?_ | refine CC.exit ?_ | refine CC.condTA ?_ | refine CC.condFA ?_ | refine CC.condDTA ?_ | refine CC.condDFA ?_ | refine CX.storeA ?_ | refine CX.skipA ?_)
  refine CX.callA (lit_c p D n) ?_
  rintro _ _ ⟨rfl, rfl⟩
  by_cases h0 : D.lit n = 0
  · have h1 : D.there n = 0 := by unfold DS.lit at h0; split at h0; cases h0; exact h0
    obtain ⟨k, rfl, hk⟩ := there_ok h1
    repeat (first | refine CX.psA ?_ | refine CX.nil ?_ | refine CQ.thenN ?_ | refine CQ.thenR ?_ | refine CQ.thenX ?_ | refine CQ.blockN ?_ | refine CQ.blockR ?_ | refine CQ.blockX ?_ | refine CQ.blockYA ?_ | refine CC.seq ?_ | refine CC.block ?_ | refine CC.region ?_ | refine CC.skip ?_ | refine CC.ret ?_ | refine CC.exit ?_ | refine CC.condTA ?_ | refine CC.condFA ?_ | refine CC.condDTA ?_ | refine CC.condDFA ?_ | refine CX.storeA ?_ | refine CX.skipA ?_)
    refine CX.callA (step_c p D h hN) ?_
    rintro _ _ ⟨rfl, rfl⟩
    by_cases h2 : D.step.1 = 0
    · have e : D.write k b = (0, { D.step.2 with loose := D.step.2.loose ++ [(k, b)] }) := by simp [DS.write, h0, h2]
      have hlo' : D.step.2.loose.length ≤ N := by unfold DS.step; split <;> exact hlo
      repeat (first | refine CX.psA ?_ | refine CX.nil ?_ | refine CQ.thenN ?_ | refine CQ.thenR ?_ | refine CQ.thenX ?_ | refine CQ.blockN ?_ | refine CQ.blockR ?_ | refine CQ.blockX ?_ | refine CQ.blockYA ?_ | refine CC.seq ?_ | refine CC.block ?_ | refine CC.region ?_ | refine CC.skip ?_ | refine CC.ret ?_ | refine CC.exit ?_ | refine CC.condTA ?_ | refine CC.condFA ?_ | refine CC.condDTA ?_ | refine CC.condDFA ?_ | refine CX.storeA ?_ | refine CX.skipA ?_)
      rw [e, h2]
      generalize D.step.2 = D' at hlo' ⊢
      (refine CC.openL (disk_eq p _) (by repeat (first | exact .head _ | apply Pick.tail | apply Upd.tail)) ?_; rintro ⟨sb, sc, la, lc⟩ -)
      refine CC.draw [(0, 0), (1, 0), (2, 0), (3, 0), (4, 1), (5, 0), (6, 1), (7, 0), (8, 2), (9, 2), (10, 0), (11, 0), (12, 3)] mixed rfl (by kernel_rfl) (by kernel_rfl) [bk p 89 [.slice (some ⟨sb, 0, none⟩) D'.sure.length sc, .slice la D'.loose.length lc, .int .i64 D'.left, .int .i64 (D'.steps : Int), .bool D'.dark], bk c 29 (cb b)] ?_
      repeat (first | refine CH.pureA ?_ | refine CH.readA ?_ | refine CH.skA ?_ | refine CH.skCA ?_ | refine CH.nil ?_)
      (apply CH.read; (· rfl); (· apply PS.loadG (vs := cb b); (· rfl); (· rfl); (· exact CellsAt.all (by repeat (first | exact .head _ | apply Pick.tail | apply Upd.tail))); (· exact hb.len)); (· repeat (first | exact Sel.nil _ | (apply Sel.cons; (· repeat (first | exact .head _ | apply Pick.tail | apply Upd.tail))))))
      (apply CH.pure; (· rfl); (· apply PS.build (vs := [(0, .int .i64 (k : Int)), (1, .agg (cb b).toArray)]); (· rfl); (· rfl); (· exact fill_put k b hb)))
      refine CH.chain rfl fun K hK => ?_
      apply CX.buildSl (vs := [(0, .agg (pc (k, b)).toArray)])
      · rfl
      · rfl
      · decide
      · exact fill_one (length_pc hb) (by simp)
      intro q
      (refine CX.nil ?_; refine CQ.thenK ?_; apply hK; (· repeat (first | exact Sel.nil _ | (apply Sel.cons; (· repeat (first | exact .head _ | apply Pick.tail | apply Upd.tail))))); clear hK K)
      refine CH.chain rfl fun K hK => ?_
      apply CX.append (m := 1) (news := pc (k, b))
      · rfl
      · rfl
      · rfl
      · repeat (first | exact .head _ | apply Pick.tail | apply Upd.tail)
      · exact RdS.pick (by repeat (first | exact .head _ | apply Pick.tail | apply Upd.tail)) (length_pc hb) (one_pc _) (by rw [List.drop_zero, List.take_of_length_le (by rw [length_pc hb]; omega)])
      · omega
      · intro hh; cases hh
      intro la' lc'
      (refine CX.nil ?_; refine CQ.thenK ?_; apply hK; (· repeat (first | exact Sel.nil _ | (apply Sel.cons; (· repeat (first | exact .head _ | apply Pick.tail | apply Upd.tail))))); clear hK K)
      repeat (first | refine CH.pureA ?_ | refine CH.readA ?_ | refine CH.skA ?_ | refine CH.skCA ?_ | refine CH.nil ?_)
      refine CH.tail rfl rfl fun K hK => ?_
      refine CX.storeA ?_
      (refine CX.nil ?_; refine CQ.thenK ?_; apply hK; clear hK K)
      repeat (first | refine CH.pureA ?_ | refine CH.readA ?_ | refine CH.skA ?_ | refine CH.skCA ?_ | refine CH.nil ?_)
      repeat (first | refine CX.psA ?_ | refine CX.nil ?_ | refine CQ.thenN ?_ | refine CQ.thenR ?_ | refine CQ.thenX ?_ | refine CQ.blockN ?_ | refine CQ.blockR ?_ | refine CQ.blockX ?_ | refine CQ.blockYA ?_ | refine CC.seq ?_ | refine CC.block ?_ | refine CC.region ?_ | refine CC.skip ?_ | refine CC.ret ?_ | refine CC.exit ?_ | refine CC.condTA ?_ | refine CC.condFA ?_ | refine CC.condDTA ?_ | refine CC.condDFA ?_ | refine CX.storeA ?_ | refine CX.skipA ?_)
      have e5 : D'.loose.length + 1 = (D'.loose ++ [(k, b)]).length := by simp
      have e6 : flatL D'.loose ++ pc (k, b) = flatL (D'.loose ++ [(k, b)]) := by simp [flatL, rows]
      rw [e5, e6]
      (refine CQ.shutL (disk_eq p ({ D' with loose := D'.loose ++ [(k, b)] })) (sb, sc, la', lc') trivial (by repeat (first | exact Sel.nil _ | (apply Sel.cons; (· repeat (first | exact .head _ | apply Pick.tail | apply Upd.tail))))) ?_)
      ((apply CQ.end1; (· rfl); (· exact .tmp rfl)); (· exact ⟨rfl, rfl⟩); (· repeat (first | exact Sel.nil _ | (apply Sel.cons; (· repeat (first | exact .head _ | apply Pick.tail | apply Upd.tail))))))
    · have e : D.write k b = D.step := by simp [DS.write, h0, h2]
      repeat (first | refine CX.psA ?_ | refine CX.nil ?_ | refine CQ.thenN ?_ | refine CQ.thenR ?_ | refine CQ.thenX ?_ | refine CQ.blockN ?_ | refine CQ.blockR ?_ | refine CQ.blockX ?_ | refine CQ.blockYA ?_ | refine CC.seq ?_ | refine CC.block ?_ | refine CC.region ?_ | refine CC.skip ?_ | refine CC.ret ?_ | refine CC.exit ?_ | refine CC.condTA ?_ | refine CC.condFA ?_ | refine CC.condDTA ?_ | refine CC.condDFA ?_ | refine CX.storeA ?_ | refine CX.skipA ?_)
      rw [e]
      ((apply CQ.end1; (· rfl); (· exact .tmp rfl)); (· exact ⟨rfl, rfl⟩); (· repeat (first | exact Sel.nil _ | (apply Sel.cons; (· repeat (first | exact .head _ | apply Pick.tail | apply Upd.tail))))))
  · have e : D.write n b = (D.lit n, D) := by simp [DS.write, h0]
    repeat (first | refine CX.psA ?_ | refine CX.nil ?_ | refine CQ.thenN ?_ | refine CQ.thenR ?_ | refine CQ.thenX ?_ | refine CQ.blockN ?_ | refine CQ.blockR ?_ | refine CQ.blockX ?_ | refine CQ.blockYA ?_ | refine CC.seq ?_ | refine CC.block ?_ | refine CC.region ?_ | refine CC.skip ?_ | refine CC.ret ?_ | refine CC.exit ?_ | refine CC.condTA ?_ | refine CC.condFA ?_ | refine CC.condDTA ?_ | refine CC.condDFA ?_ | refine CX.storeA ?_ | refine CX.skipA ?_)
    rw [e]
    ((apply CQ.end1; (· rfl); (· exact .tmp rfl)); (· exact ⟨rfl, rfl⟩); (· repeat (first | exact Sel.nil _ | (apply Sel.cons; (· repeat (first | exact .head _ | apply Pick.tail | apply Upd.tail))))))
theorem settle_c (p : Nat) (D : DS) (picks : List Int) (a : Option Addr) (c : Nat) (others : Int) (ho : 0 ≤ others ∧ others ≤ 128) {N : Nat} (h : D.wf N) (hN : N < 1000000) : Ctr Try.prog 85 [.pointer (some ⟨p, 0, none⟩), .slice a picks.length c, .int .i64 others] [disk p D] (rdx a picks.length (picks.map (Value.int .i64))) (fun v M => v = .tuple #[] ∧ M = [disk p (D.settle picks others.toNat)]) := by
  have hlo := h.loose
  have hlb : ∀ p ∈ D.loose, WB p.2 := fun p hp => (h.lb p hp).2
  refine Ctr.intro Try.func85 rfl Try.ntmps85 rfl fun x w hp => ?_
  (refine CC.openL (disk_eq p _) (by repeat (first | exact .head _ | apply Pick.tail | apply Upd.tail)) ?_; rintro ⟨sb, sc, la, lc⟩ -)
  repeat (first | refine CX.psA ?_ | refine CX.nil ?_ | refine CQ.thenN ?_ | refine CQ.thenR ?_ | refine CQ.thenX ?_ | refine CQ.blockN ?_ | refine CQ.blockR ?_ | refine CQ.blockX ?_ | refine CQ.blockYA ?_ | refine CC.seq ?_ | refine CC.block ?_ | refine CC.region ?_ | refine CC.skip ?_ | refine CC.ret ?_ | refine CC.exit ?_ | refine CC.condTA ?_ | refine CC.condFA ?_ | refine CC.condDTA ?_ | refine CC.condDFA ?_ | refine CX.storeA ?_ | refine CX.skipA ?_)
  refine CC.loop (X := Nat) (fun i => [(14, .int .i64 (i : Int)), (13, .int .i64 (D.loose.length : Int)), (12, .slice la D.loose.length lc), (0, .pointer (some ⟨p, 0, none⟩)), (1, .slice a picks.length c), (2, .int .i64 others)])
    (fun i => [bk p 89 [.slice (some ⟨sb, 0, none⟩) D.sure.length sc, .slice la D.loose.length lc, .int .i64 D.left, .int .i64 (D.steps : Int), .bool D.dark],
      own 29 128 (some ⟨sb, 0, none⟩) D.sure.length sc (flat (settleL D.sure picks others.toNat 0 (D.loose.take i))), own 127 129 la D.loose.length lc (flatL D.loose), exact x])
    (fun i => i ≤ D.loose.length) (fun i => D.loose.length - i) 0 (Nat.zero_le _) ⟨rfl, rfl, rfl, rfl, rfl, rfl, trivial⟩ (by repeat (first | exact Sel.nil _ | (apply Sel.cons; (· repeat (first | exact .head _ | apply Pick.tail | apply Upd.tail))))) ?_
  intro i hi
  by_cases hlt : i < D.loose.length
  · have hw := hlb D.loose[i] (by simp)
    have hin := (h.lb D.loose[i] (by simp)).1
    have hSl : ∀ l, (settleL D.sure picks others.toNat 0 l).length = D.sure.length := fun l => length_settleL _ _ _ _ _
    have hSw := settleL_WB picks others.toNat (D.loose.take i) D.sure 0 h.wb (fun q hq => h.lb q (List.mem_of_mem_take hq))
    have hsnoc : settleL D.sure picks others.toNat 0 (D.loose.take (i + 1)) = (settleL D.sure picks others.toNat 0 (D.loose.take i)).set D.loose[i].1 (torn ((settleL D.sure picks others.toNat 0 (D.loose.take i)).getD D.loose[i].1 []) D.loose[i].2 (pickAt picks others.toNat i)) := by
      rw [List.take_succ_eq_append_getElem hlt, settleL_snoc, List.length_take, Nat.zero_add, Nat.min_eq_left hi]
    repeat (first | refine CX.psA ?_ | refine CX.nil ?_ | refine CQ.thenN ?_ | refine CQ.thenR ?_ | refine CQ.thenX ?_ | refine CQ.blockN ?_ | refine CQ.blockR ?_ | refine CQ.blockX ?_ | refine CQ.blockYA ?_ | refine CC.seq ?_ | refine CC.block ?_ | refine CC.region ?_ | refine CC.skip ?_ | refine CC.ret ?_ | refine CC.exit ?_ | refine CC.condTA ?_ | refine CC.condFA ?_ | refine CC.condDTA ?_ | refine CC.condDFA ?_ | refine CX.storeA ?_ | refine CX.skipA ?_)
    (refine CX.indexOA (i) (by exact hlt) ?_; rintro g rfl)
    (apply CX.ps; (· apply PS.loadG (vs := pc D.loose[i]); (· rfl); (· rfl); (· exact CellsAt.own (by repeat (first | exact .head _ | apply Pick.tail | apply Upd.tail)) (by rw [length_pc hw]; exact flatL_p _ hlb i hlt)); (· exact length_pc hw)))
    (apply CX.allocAs (pc (0, zblk)) (by simp [pc, cb_z, Value.cells]); (· rfl); intro r)
    repeat (first | refine CX.psA ?_ | refine CX.nil ?_ | refine CQ.thenN ?_ | refine CQ.thenR ?_ | refine CQ.thenX ?_ | refine CQ.blockN ?_ | refine CQ.blockR ?_ | refine CQ.blockX ?_ | refine CQ.blockYA ?_ | refine CC.seq ?_ | refine CC.block ?_ | refine CC.region ?_ | refine CC.skip ?_ | refine CC.ret ?_ | refine CC.exit ?_ | refine CC.condTA ?_ | refine CC.condFA ?_ | refine CC.condDTA ?_ | refine CC.condDFA ?_ | refine CX.storeA ?_ | refine CX.skipA ?_)
    (apply CX.storeAll; (· rfl); (· rfl); (· rfl); (· repeat (first | exact .head _ | apply Pick.tail | apply Upd.tail)); (· exact length_pc hw); (· exact length_pc WB_z); (· exact one_pc _))
    repeat (first | refine CX.psA ?_ | refine CX.nil ?_ | refine CQ.thenN ?_ | refine CQ.thenR ?_ | refine CQ.thenX ?_ | refine CQ.blockN ?_ | refine CQ.blockR ?_ | refine CQ.blockX ?_ | refine CQ.blockYA ?_ | refine CC.seq ?_ | refine CC.block ?_ | refine CC.region ?_ | refine CC.skip ?_ | refine CC.ret ?_ | refine CC.exit ?_ | refine CC.condTA ?_ | refine CC.condFA ?_ | refine CC.condDTA ?_ | refine CC.condDFA ?_ | refine CX.storeA ?_ | refine CX.skipA ?_)
    refine CC.join (X := Unit) (fun _ => [(8, .int .i64 (pickAt picks others.toNat i : Int)), (7, .pointer (some ⟨r, 0, none⟩)), (14, .int .i64 (i : Int)), (13, .int .i64 (D.loose.length : Int)), (12, .slice (some ⟨g, 0, none⟩) D.loose.length lc), (0, .pointer (some ⟨p, 0, none⟩)), (1, .slice a picks.length c), (2, .int .i64 others)])
      (fun _ => [bk r 127 (pc D.loose[i]), bk p 89 [.slice (some ⟨sb, 0, none⟩) D.sure.length sc, .slice (some ⟨g, 0, none⟩) D.loose.length lc, .int .i64 D.left, .int .i64 (D.steps : Int), .bool D.dark],
      own 29 128 (some ⟨sb, 0, none⟩) D.sure.length sc (flat (settleL D.sure picks others.toNat 0 (D.loose.take i))), own 127 129 (some ⟨g, 0, none⟩) D.loose.length lc (flatL D.loose), exact x]) (fun _ => True) ?_ ?_
    · by_cases hpk : i < picks.length
      · rcases hp with h0 | ⟨pg, off, cs, pt, fr, rfl, hx, hcs⟩
        · omega
        have hz : picks[i]? = some picks[i] := by simp [hpk]
        repeat (first | refine CX.psA ?_ | refine CX.nil ?_ | refine CQ.thenN ?_ | refine CQ.thenR ?_ | refine CQ.thenX ?_ | refine CQ.blockN ?_ | refine CQ.blockR ?_ | refine CQ.blockX ?_ | refine CQ.blockYA ?_ | refine CC.seq ?_ | refine CC.block ?_ | refine CC.region ?_ | refine CC.skip ?_ | refine CC.ret ?_ | refine CC.exit ?_ | refine CC.condTA ?_ | refine CC.condFA ?_ | refine CC.condDTA ?_ | refine CC.condDFA ?_ | refine CX.storeA ?_ | refine CX.skipA ?_)
        refine CX.indexA (i) (by exact hpk) ?_
        (apply CX.ps; (· apply PS.load (v := .int .i64 picks[i]); (· rfl); (· rfl); (· exact CellAt.exact (by repeat (first | exact .head _ | apply Pick.tail | apply Upd.tail)) ⟨cs, pt, fr, hx, by rw [Nat.mul_one]; exact hcs i _ (by simp [hpk])⟩)))
        repeat (first | refine CX.psA ?_ | refine CX.nil ?_ | refine CQ.thenN ?_ | refine CQ.thenR ?_ | refine CQ.thenX ?_ | refine CQ.blockN ?_ | refine CQ.blockR ?_ | refine CQ.blockX ?_ | refine CQ.blockYA ?_ | refine CC.seq ?_ | refine CC.block ?_ | refine CC.region ?_ | refine CC.skip ?_ | refine CC.ret ?_ | refine CC.exit ?_ | refine CC.condTA ?_ | refine CC.condFA ?_ | refine CC.condDTA ?_ | refine CC.condDFA ?_ | refine CX.storeA ?_ | refine CX.skipA ?_)
        refine CQ.joined () trivial ⟨eqI (by simp only [pickAt, hz]; omega), rfl, rfl, rfl, rfl, rfl, rfl, rfl, trivial⟩ (by repeat (first | exact Sel.nil _ | (apply Sel.cons; (· repeat (first | exact .head _ | apply Pick.tail | apply Upd.tail)))))
      · have hz : picks[i]? = none := by simp; omega
        repeat (first | refine CX.psA ?_ | refine CX.nil ?_ | refine CQ.thenN ?_ | refine CQ.thenR ?_ | refine CQ.thenX ?_ | refine CQ.blockN ?_ | refine CQ.blockR ?_ | refine CQ.blockX ?_ | refine CQ.blockYA ?_ | refine CC.seq ?_ | refine CC.block ?_ | refine CC.region ?_ | refine CC.skip ?_ | refine CC.ret ?_ | refine CC.exit ?_ | refine CC.condTA ?_ | refine CC.condFA ?_ | refine CC.condDTA ?_ | refine CC.condDFA ?_ | refine CX.storeA ?_ | refine CX.skipA ?_)
        refine CQ.joined () trivial ⟨eqI (by simp only [pickAt, hz]; omega), rfl, rfl, rfl, rfl, rfl, rfl, rfl, trivial⟩ (by repeat (first | exact Sel.nil _ | (apply Sel.cons; (· repeat (first | exact .head _ | apply Pick.tail | apply Upd.tail)))))
    · rintro _ -
      generalize hm : pickAt picks others.toNat i = m
      have hm' : m ≤ 128 := by subst hm; simp only [pickAt]; split <;> omega
      generalize hSS : settleL D.sure picks others.toNat 0 (D.loose.take i) = SS at *
      have hSl' : SS.length = D.sure.length := by rw [← hSS]; exact hSl _
      refine CC.draw [(0, 0), (1, 0), (2, 0), (3, 1), (4, 0), (5, 1), (6, 0), (7, 0), (8, 0), (9, 0), (10, 0), (11, 0), (12, 2)] mixed rfl (by kernel_rfl) (by kernel_rfl) [bk r 127 (pc D.loose[i]), bk p 89 [.slice (some ⟨sb, 0, none⟩) D.sure.length sc, .slice (some ⟨g, 0, none⟩) D.loose.length lc, .int .i64 D.left, .int .i64 (D.steps : Int), .bool D.dark]] ?_
      repeat (first | refine CH.pureA ?_ | refine CH.readA ?_ | refine CH.skA ?_ | refine CH.skCA ?_ | refine CH.nil ?_)
      (apply CH.pure; (· rfl); (· apply PS.indexAddr (j := D.loose[i].1); (· rfl); (· rfl); (· rfl); (· rfl); (· exact hin)))
      repeat (first | refine CH.pureA ?_ | refine CH.readA ?_ | refine CH.skA ?_ | refine CH.skCA ?_ | refine CH.nil ?_)
      (apply CH.pure; (· rfl); (· apply PS.sliceArrHi (h := m); (· rfl); (· rfl); (· rfl); (· rfl); (· exact hm')))
      repeat (first | refine CH.pureA ?_ | refine CH.readA ?_ | refine CH.skA ?_ | refine CH.skCA ?_ | refine CH.nil ?_)
      (apply CH.pure; (· rfl); (· apply PS.sliceArrHi (h := m); (· rfl); (· rfl); (· rfl); (· rfl); (· exact hm')))
      refine CH.chain rfl fun K hK => ?_
      apply CX.copyOwn (m := m) (news := cb (D.loose[i].2.take m))
      · rfl
      · rfl
      · rfl
      · exact RdS.pick (by repeat (first | exact .head _ | apply Pick.tail | apply Upd.tail)) (by rw [length_cb, List.length_take, hw]; omega) (one_cb _) (by simp only [pc, List.drop_succ_cons, List.drop_zero, cb_take])
      · repeat (first | exact .head _ | apply Pick.tail | apply Upd.tail)
      · simp
      · omega
      (refine CX.nil ?_; refine CQ.thenK ?_; apply hK; (· repeat (first | exact Sel.nil _ | (apply Sel.cons; (· repeat (first | exact .head _ | apply Pick.tail | apply Upd.tail))))); clear hK K)
      repeat (first | refine CH.pureA ?_ | refine CH.readA ?_ | refine CH.skA ?_ | refine CH.skCA ?_ | refine CH.nil ?_)
      have e1 : setL (flat SS) (0 + D.loose[i].1 * 128) (List.take m (cb (List.take m D.loose[i].2))) = flat (settleL D.sure picks others.toNat 0 (D.loose.take (i + 1))) := by
        rw [Nat.zero_add, List.take_of_length_le (by simp; omega), flat_set hSw (by omega) _ m hm' hw, hsnoc, hm]
      rw [e1]
      clear e1 hsnoc hSS hSw hm
      repeat (first | refine CX.psA ?_ | refine CX.nil ?_ | refine CQ.thenN ?_ | refine CQ.thenR ?_ | refine CQ.thenX ?_ | refine CQ.blockN ?_ | refine CQ.blockR ?_ | refine CQ.blockX ?_ | refine CQ.blockYA ?_ | refine CC.seq ?_ | refine CC.block ?_ | refine CC.region ?_ | refine CC.skip ?_ | refine CC.ret ?_ | refine CC.exit ?_ | refine CC.condTA ?_ | refine CC.condFA ?_ | refine CC.condDTA ?_ | refine CC.condDFA ?_ | refine CX.storeA ?_ | refine CX.skipA ?_)
      exact CQ.round (i + 1) hlt (by omega) ⟨eqI (by omega), rfl, rfl, rfl, rfl, rfl, trivial⟩ (by repeat (first | exact Sel.nil _ | (apply Sel.cons; (· repeat (first | exact .head _ | apply Pick.tail | apply Upd.tail)))))
  · obtain rfl : i = D.loose.length := by omega
    repeat (first | refine CX.psA ?_ | refine CX.nil ?_ | refine CQ.thenN ?_ | refine CQ.thenR ?_ | refine CQ.thenX ?_ | refine CQ.blockN ?_ | refine CQ.blockR ?_ | refine CQ.blockX ?_ | refine CQ.blockYA ?_ | refine CC.seq ?_ | refine CC.block ?_ | refine CC.region ?_ | refine CC.skip ?_ | refine CC.ret ?_ | refine CC.exit ?_ | refine CC.condTA ?_ | refine CC.condFA ?_ | refine CC.condDTA ?_ | refine CC.condDFA ?_ | refine CX.storeA ?_ | refine CX.skipA ?_)
    refine CQ.ownNil 127 129 ?_
    have e : D.sure.length = (D.settle picks others.toNat).sure.length := by simp [DS.settle, length_settleL]
    rw [e, List.take_length]
    (refine CQ.shutL (disk_eq p (D.settle picks others.toNat)) (_, _, _, _) trivial (by repeat (first | exact Sel.nil _ | (apply Sel.cons; (· repeat (first | exact .head _ | apply Pick.tail | apply Upd.tail))))) ?_)
    apply CQ.end0
    · rfl
    · exact ⟨rfl, rfl⟩
    · repeat (first | exact Sel.nil _ | (apply Sel.cons; (· repeat (first | exact .head _ | apply Pick.tail | apply Upd.tail))))
theorem flush_c (p : Nat) (D : DS) {N : Nat} (h : D.wf N) (hN : N < 999999) : Ctr Try.prog 23 [.pointer (some ⟨p, 0, none⟩)] [disk p D] (fun _ => True) (fun v M => v = .int .i64 D.flush.1 ∧ M = [disk p D.flush.2]) := by
  refine Ctr.intro Try.func23 rfl Try.ntmps23 rfl fun x w hp => ?_
  repeat (first | refine CX.psA ?_ | refine CX.nil ?_ | refine CQ.thenN ?_ | refine CQ.thenR ?_ | refine CQ.thenX ?_ | refine CQ.blockN ?_ | refine CQ.blockR ?_ | refine CQ.blockX ?_ | refine CQ.blockYA ?_ | refine CC.seq ?_ | refine CC.block ?_ | refine CC.region ?_ | refine CC.skip ?_ | refine CC.ret ?_ | refine CC.exit ?_ | refine CC.condTA ?_ | refine CC.condFA ?_ | refine CC.condDTA ?_ | refine CC.condDFA ?_ | refine CX.storeA ?_ | refine CX.skipA ?_)
  refine CX.callA (lit_c p D 0) ?_
  rintro _ _ ⟨rfl, rfl⟩
  by_cases h0 : D.lit 0 = 0
  · repeat (first | refine CX.psA ?_ | refine CX.nil ?_ | refine CQ.thenN ?_ | refine CQ.thenR ?_ | refine CQ.thenX ?_ | refine CQ.blockN ?_ | refine CQ.blockR ?_ | refine CQ.blockX ?_ | refine CQ.blockYA ?_ | refine CC.seq ?_ | refine CC.block ?_ | refine CC.region ?_ | refine CC.skip ?_ | refine CC.ret ?_ | refine CC.exit ?_ | refine CC.condTA ?_ | refine CC.condFA ?_ | refine CC.condDTA ?_ | refine CC.condDFA ?_ | refine CX.storeA ?_ | refine CX.skipA ?_)
    refine CX.callA (step_c p D h (by omega)) ?_
    rintro _ _ ⟨rfl, rfl⟩
    by_cases h2 : D.step.1 = 0
    · have e : D.flush = (0, D.step.2.settle [] 128) := by simp [DS.flush, h0, h2]
      repeat (first | refine CX.psA ?_ | refine CX.nil ?_ | refine CQ.thenN ?_ | refine CQ.thenR ?_ | refine CQ.thenX ?_ | refine CQ.blockN ?_ | refine CQ.blockR ?_ | refine CQ.blockX ?_ | refine CQ.blockYA ?_ | refine CC.seq ?_ | refine CC.block ?_ | refine CC.region ?_ | refine CC.skip ?_ | refine CC.ret ?_ | refine CC.exit ?_ | refine CC.condTA ?_ | refine CC.condFA ?_ | refine CC.condDTA ?_ | refine CC.condDFA ?_ | refine CX.storeA ?_ | refine CX.skipA ?_)
      (apply CX.call (S := settle_c p D.step.2 [] none 0 128 (by omega) (N := N + 1) (step_wf h) (by omega)) (hpre := fun _ _ => .inl rfl); (· rfl); (· rfl); (· repeat (first | exact Sel.nil _ | (apply Sel.cons; (· repeat (first | exact .head _ | apply Pick.tail | apply Upd.tail))))))
      rintro _ _ ⟨rfl, rfl⟩
      repeat (first | refine CX.psA ?_ | refine CX.nil ?_ | refine CQ.thenN ?_ | refine CQ.thenR ?_ | refine CQ.thenX ?_ | refine CQ.blockN ?_ | refine CQ.blockR ?_ | refine CQ.blockX ?_ | refine CQ.blockYA ?_ | refine CC.seq ?_ | refine CC.block ?_ | refine CC.region ?_ | refine CC.skip ?_ | refine CC.ret ?_ | refine CC.exit ?_ | refine CC.condTA ?_ | refine CC.condFA ?_ | refine CC.condDTA ?_ | refine CC.condDFA ?_ | refine CX.storeA ?_ | refine CX.skipA ?_)
      rw [e]
      ((apply CQ.end1; (· rfl); (· exact .tmp rfl)); (· exact ⟨by rw [h2], rfl⟩); (· repeat (first | exact Sel.nil _ | (apply Sel.cons; (· repeat (first | exact .head _ | apply Pick.tail | apply Upd.tail))))))
    · have e : D.flush = D.step := by simp [DS.flush, h0, h2]
      repeat (first | refine CX.psA ?_ | refine CX.nil ?_ | refine CQ.thenN ?_ | refine CQ.thenR ?_ | refine CQ.thenX ?_ | refine CQ.blockN ?_ | refine CQ.blockR ?_ | refine CQ.blockX ?_ | refine CQ.blockYA ?_ | refine CC.seq ?_ | refine CC.block ?_ | refine CC.region ?_ | refine CC.skip ?_ | refine CC.ret ?_ | refine CC.exit ?_ | refine CC.condTA ?_ | refine CC.condFA ?_ | refine CC.condDTA ?_ | refine CC.condDFA ?_ | refine CX.storeA ?_ | refine CX.skipA ?_)
      rw [e]
      ((apply CQ.end1; (· rfl); (· exact .tmp rfl)); (· exact ⟨rfl, rfl⟩); (· repeat (first | exact Sel.nil _ | (apply Sel.cons; (· repeat (first | exact .head _ | apply Pick.tail | apply Upd.tail))))))
  · have e : D.flush = (D.lit 0, D) := by simp [DS.flush, h0]
    repeat (first | refine CX.psA ?_ | refine CX.nil ?_ | refine CQ.thenN ?_ | refine CQ.thenR ?_ | refine CQ.thenX ?_ | refine CQ.blockN ?_ | refine CQ.blockR ?_ | refine CQ.blockX ?_ | refine CQ.blockYA ?_ | refine CC.seq ?_ | refine CC.block ?_ | refine CC.region ?_ | refine CC.skip ?_ | refine CC.ret ?_ | refine CC.exit ?_ | refine CC.condTA ?_ | refine CC.condFA ?_ | refine CC.condDTA ?_ | refine CC.condDFA ?_ | refine CX.storeA ?_ | refine CX.skipA ?_)
    rw [e]
    ((apply CQ.end1; (· rfl); (· exact .tmp rfl)); (· exact ⟨rfl, rfl⟩); (· repeat (first | exact Sel.nil _ | (apply Sel.cons; (· repeat (first | exact .head _ | apply Pick.tail | apply Upd.tail))))))
theorem new_c (n : Int) : Ctr Try.prog 21 [.int .i64 n] [] (fun _ => True) (fun v M => (64 ≤ n ∧ n ≤ 4096 ∧ ∃ p, v = .tuple #[.pointer (some ⟨p, 0, none⟩), .int .i64 0] ∧ M = [disk p (DS.new n.toNat)]) ∨ (¬(64 ≤ n ∧ n ≤ 4096) ∧ v = .tuple #[.pointer none, .int .i64 2] ∧ M = [])) := by
  refine Ctr.intro Try.func21 rfl Try.ntmps21 rfl fun x w hp => ?_
  by_cases h1 : n < 64
  · repeat (first | refine CX.psA ?_ | refine CX.nil ?_ | refine CQ.thenN ?_ | refine CQ.thenR ?_ | refine CQ.thenX ?_ | refine CQ.blockN ?_ | refine CQ.blockR ?_ | refine CQ.blockX ?_ | refine CQ.blockYA ?_ | refine CC.seq ?_ | refine CC.block ?_ | refine CC.region ?_ | refine CC.skip ?_ | refine CC.ret ?_ | refine CC.exit ?_ | refine CC.condTA ?_ | refine CC.condFA ?_ | refine CC.condDTA ?_ | refine CC.condDFA ?_ | refine CX.storeA ?_ | refine CX.skipA ?_)
    (apply CQ.end2; (· rfl); (· exact .tmp rfl); (· exact .tmp rfl))
    · exact .inr ⟨by omega, rfl, rfl⟩
    · repeat (first | exact Sel.nil _ | (apply Sel.cons; (· repeat (first | exact .head _ | apply Pick.tail | apply Upd.tail))))
  by_cases h2 : 4096 < n
  · repeat (first | refine CX.psA ?_ | refine CX.nil ?_ | refine CQ.thenN ?_ | refine CQ.thenR ?_ | refine CQ.thenX ?_ | refine CQ.blockN ?_ | refine CQ.blockR ?_ | refine CQ.blockX ?_ | refine CQ.blockYA ?_ | refine CC.seq ?_ | refine CC.block ?_ | refine CC.region ?_ | refine CC.skip ?_ | refine CC.ret ?_ | refine CC.exit ?_ | refine CC.condTA ?_ | refine CC.condFA ?_ | refine CC.condDTA ?_ | refine CC.condDFA ?_ | refine CX.storeA ?_ | refine CX.skipA ?_)
    (apply CQ.end2; (· rfl); (· exact .tmp rfl); (· exact .tmp rfl))
    · exact .inr ⟨by omega, rfl, rfl⟩
    · repeat (first | exact Sel.nil _ | (apply Sel.cons; (· repeat (first | exact .head _ | apply Pick.tail | apply Upd.tail))))
  obtain ⟨k, rfl⟩ : ∃ k : Nat, n = k := ⟨n.toNat, by omega⟩
  repeat (first | refine CX.psA ?_ | refine CX.nil ?_ | refine CQ.thenN ?_ | refine CQ.thenR ?_ | refine CQ.thenX ?_ | refine CQ.blockN ?_ | refine CQ.blockR ?_ | refine CQ.blockX ?_ | refine CQ.blockYA ?_ | refine CC.seq ?_ | refine CC.block ?_ | refine CC.region ?_ | refine CC.skip ?_ | refine CC.ret ?_ | refine CC.exit ?_ | refine CC.condTA ?_ | refine CC.condFA ?_ | refine CC.condDTA ?_ | refine CC.condDFA ?_ | refine CX.storeA ?_ | refine CX.skipA ?_)
  (apply CX.makeSl (l := k); (· rfl); (· rfl); (· rfl); (· rfl); (· omega); intro sb)
  (apply CX.ps; (· apply PS.build (vs := [(0, .slice (some ⟨sb, 0, none⟩) k k)]); (· rfl); (· rfl); (· rfl)))
  (refine CX.boxA ?_; intro p)
  repeat (first | refine CX.psA ?_ | refine CX.nil ?_ | refine CQ.thenN ?_ | refine CQ.thenR ?_ | refine CQ.thenX ?_ | refine CQ.blockN ?_ | refine CQ.blockR ?_ | refine CQ.blockX ?_ | refine CQ.blockYA ?_ | refine CC.seq ?_ | refine CC.block ?_ | refine CC.region ?_ | refine CC.skip ?_ | refine CC.ret ?_ | refine CC.exit ?_ | refine CC.condTA ?_ | refine CC.condFA ?_ | refine CC.condDTA ?_ | refine CC.condDFA ?_ | refine CX.storeA ?_ | refine CX.skipA ?_)
  refine CQ.ownNil 127 129 ?_
  have e : (madeCells (List.replicate 128 (Value.int .u8 0)).toArray (k * 128)).toList = flat (List.replicate k zblk) := by rw [made_rep _ _ _ (by omega), flat_zs]
  have e2 : k = (DS.new k).sure.length := by simp [DS.new]
  have e3 : (fun l => flat (List.replicate l zblk)) k = flat (DS.new k).sure := rfl
  apply CQ.mem (L' := DL p (DS.new k) sb k none 0 ++ [exact x])
  · intro h hs
    have hs' : Sep ([own 127 129 none 0 0 [], bk p 89 [.slice (some ⟨sb, 0, none⟩) k k, .slice none 0 0, .int .i64 0, .int .i64 0, .bool false], own 29 128 (some ⟨sb, 0, none⟩) k k (madeCells (List.replicate 128 (Value.int .u8 0)).toArray (k * 128)).toList, exact x]) h := hs
    rw [e] at hs'
    have : Sel [own 127 129 none 0 0 [], bk p 89 [.slice (some ⟨sb, 0, none⟩) k k, .slice none 0 0, .int .i64 0, .int .i64 0, .bool false], own 29 128 (some ⟨sb, 0, none⟩) k k (flat (List.replicate k zblk)), exact x] (DL p (DS.new k) sb k none 0 ++ [exact x]) [] := by
      simp only [DL, DS.new, List.length_replicate]
      repeat (first | exact Sel.nil _ | (apply Sel.cons; (· repeat (first | exact .head _ | apply Pick.tail | apply Upd.tail))))
    exact (this.sep hs').left
  (refine CQ.shutL (disk_eq p (DS.new k)) (_, _, _, _) trivial (by repeat (first | exact Sel.nil _ | (apply Sel.cons; (· repeat (first | exact .head _ | apply Pick.tail | apply Upd.tail))))) ?_)
  (apply CQ.end2; (· rfl); (· exact .tmp rfl); (· exact .tmp rfl))
  · exact .inl ⟨by omega, by omega, p, rfl, rfl⟩
  · repeat (first | exact Sel.nil _ | (apply Sel.cons; (· repeat (first | exact .head _ | apply Pick.tail | apply Upd.tail))))
theorem crash_c (p : Nat) (D : DS) (picks : List Int) (a : Option Addr) (c : Nat) {N : Nat} (h : D.wf N) (hN : N < 1000000) : Ctr Try.prog 30 [.pointer (some ⟨p, 0, none⟩), .slice a picks.length c] [disk p D] (rdx a picks.length (picks.map (Value.int .i64))) (fun v M => v = .int .i64 0 ∧ M = [disk p (D.crash picks)]) := by
  refine Ctr.intro Try.func30 rfl Try.ntmps30 rfl fun x w hp => ?_
  repeat (first | refine CX.psA ?_ | refine CX.nil ?_ | refine CQ.thenN ?_ | refine CQ.thenR ?_ | refine CQ.thenX ?_ | refine CQ.blockN ?_ | refine CQ.blockR ?_ | refine CQ.blockX ?_ | refine CQ.blockYA ?_ | refine CC.seq ?_ | refine CC.block ?_ | refine CC.region ?_ | refine CC.skip ?_ | refine CC.ret ?_ | refine CC.exit ?_ | refine CC.condTA ?_ | refine CC.condFA ?_ | refine CC.condDTA ?_ | refine CC.condDFA ?_ | refine CX.storeA ?_ | refine CX.skipA ?_)
  refine CX.callA (none_c p D) ?_
  rintro _ _ ⟨rfl, rfl⟩
  repeat (first | refine CX.psA ?_ | refine CX.nil ?_ | refine CQ.thenN ?_ | refine CQ.thenR ?_ | refine CQ.thenX ?_ | refine CQ.blockN ?_ | refine CQ.blockR ?_ | refine CQ.blockX ?_ | refine CQ.blockYA ?_ | refine CC.seq ?_ | refine CC.block ?_ | refine CC.region ?_ | refine CC.skip ?_ | refine CC.ret ?_ | refine CC.exit ?_ | refine CC.condTA ?_ | refine CC.condFA ?_ | refine CC.condDTA ?_ | refine CC.condDFA ?_ | refine CX.storeA ?_ | refine CX.skipA ?_)
  refine CX.callA (settle_c p D picks a c 0 (by omega) h hN) ?_ (hpre := by exact fun y hy => rdx_mono hp (Pick.ok (show Pick (exact x) _ _ from by repeat (first | exact .head _ | apply Pick.tail | apply Upd.tail)) hy))
  rintro _ _ ⟨rfl, rfl⟩
  repeat (first | refine CX.psA ?_ | refine CX.nil ?_ | refine CQ.thenN ?_ | refine CQ.thenR ?_ | refine CQ.thenX ?_ | refine CQ.blockN ?_ | refine CQ.blockR ?_ | refine CQ.blockX ?_ | refine CQ.blockYA ?_ | refine CC.seq ?_ | refine CC.block ?_ | refine CC.region ?_ | refine CC.skip ?_ | refine CC.ret ?_ | refine CC.exit ?_ | refine CC.condTA ?_ | refine CC.condFA ?_ | refine CC.condDTA ?_ | refine CC.condDFA ?_ | refine CX.storeA ?_ | refine CX.skipA ?_)
  (refine CX.openL (disk_eq p _) (by repeat (first | exact .head _ | apply Pick.tail | apply Upd.tail)) ?_; rintro ⟨sb, sc, la, lc⟩ -)
  repeat (first | refine CX.psA ?_ | refine CX.nil ?_ | refine CQ.thenN ?_ | refine CQ.thenR ?_ | refine CQ.thenX ?_ | refine CQ.blockN ?_ | refine CQ.blockR ?_ | refine CQ.blockX ?_ | refine CQ.blockYA ?_ | refine CC.seq ?_ | refine CC.block ?_ | refine CC.region ?_ | refine CC.skip ?_ | refine CC.ret ?_ | refine CC.exit ?_ | refine CC.condTA ?_ | refine CC.condFA ?_ | refine CC.condDTA ?_ | refine CC.condDFA ?_ | refine CX.storeA ?_ | refine CX.skipA ?_)
  (refine CQ.shutL (disk_eq p (D.crash picks)) (_, _, _, _) trivial (by repeat (first | exact Sel.nil _ | (apply Sel.cons; (· repeat (first | exact .head _ | apply Pick.tail | apply Upd.tail))))) ?_)
  ((apply CQ.end1; (· rfl); (· exact .tmp rfl)); (· exact ⟨rfl, rfl⟩); (· repeat (first | exact Sel.nil _ | (apply Sel.cons; (· repeat (first | exact .head _ | apply Pick.tail | apply Upd.tail))))))
end Go.Proofs.Ytlckhaodecdbbaa
