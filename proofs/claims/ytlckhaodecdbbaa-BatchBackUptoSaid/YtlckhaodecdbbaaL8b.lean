/- The statement BatchBack, in the program. -/
import Derived.Test.YtlckhaodecdbbaaL8
set_option linter.unusedVariables false
set_option linter.unusedSimpArgs false
namespace Go.Cx
theorem chs_len : ∀ (l : List ChM) (n : Nat), (∀ c ∈ l, (chB c).length ≤ n) → ((l.map chB).flatten).length ≤ l.length * n
  | [], _, _ => by simp
  | c :: l, n, h => by
    have h1 := h c (by simp)
    have h2 := chs_len l n fun c hc => h c (by simp [hc])
    have e : (l.length + 1) * n = l.length * n + n := Nat.succ_mul _ _
    simp only [List.map_cons, List.flatten_cons, List.length_append, List.length_cons]
    omega
theorem put_len {l : List ChM} (h : MayC l) (hl : l.length ≤ 1048576) : (putB l).length ≤ 70368744000000 := by
  have h1 := chs_len l 1048604 fun c hc => by
    have o := h.2 c hc
    have e := chB_len c o
    have h1 := o.k2
    have h2 := o.v
    split at e <;> omega
  have h2 : l.length * 1048604 ≤ 1048576 * 1048604 := Nat.mul_le_mul_right _ hl
  simp only [putB, List.length_append, length_le]
  omega
theorem loop_bad {b : Blk} : ∀ (k : Nat) (l : List ChM) (at_ : Nat), (loopB b k l at_).2 ≠ 0 → (loopB b k l at_).1 = []
  | 0, l, at_, h => by
    rw [loopB] at h ⊢
    split
    · rfl
    · rename_i hh; rw [if_neg hh] at h; exact absurd rfl h
  | k + 1, l, at_, h => by
    rw [loopB] at h ⊢
    split
    · rfl
    · rename_i hh
      rw [if_neg hh] at h
      split
      · rfl
      · rename_i h2
        rw [if_neg h2] at h
        exact loop_bad k _ _ h
theorem getB_bad {b : Blk} (h : (getB b).2 ≠ 0) : (getB b).1 = [] := by
  unfold getB at h ⊢
  split
  · rfl
  · rename_i hh; rw [if_neg hh] at h; exact loop_bad _ _ _ h
end Go.Cx
namespace Go.Proofs.Ytlckhaodecdbbaa
open Go.Cx
attribute [local irreducible] Go.Cx.CX Go.Cx.CC Go.Cx.CQ Go.Cx.PS Go.Cx.Ctr Go.Cx.CH
set_option maxRecDepth 10000
theorem back8_c (l : List ChV) (hl : l.length ≤ 1048576) (B : Blk) (hB : B.length ≤ 1048576) (a b : Option Addr) (ca cb' : Nat) (hcb : B.length ≤ cb') :
    Ctr Try.prog 16 [.slice a l.length ca, .slice b B.length cb'] [] (fun x => chAt a l x ∧ rdx b B.length (cb B) x) (fun v M => v = .bool true ∧ M = []) := by
  refine Ctr.intro Try.func16 rfl Try.ntmps16 rfl fun x w hp => ?_
  obtain ⟨hpa, hpb⟩ := hp
  repeat (first | refine CX.psA ?_ | refine CX.nil ?_ | refine CQ.thenN ?_ | refine CQ.thenR ?_ | refine CQ.thenX ?_ | refine CQ.blockN ?_ | refine CQ.blockR ?_ | refine CQ.blockX ?_ | refine CQ.blockYA ?_ | refine CC.seq ?_ | refine CC.block ?_ | refine CC.region ?_ | refine CC.skip ?_ | refine CC.ret ?_ | refine CC.exit ?_ | refine CC.condTA ?_ | refine CC.condFA ?_ | refine CC.condDTA ?_ | refine CC.condDFA ?_ | refine CX.storeA ?_ | refine CX.skipA ?_)
  refine CX.callA (bput_c l (by omega) (fun h => Nat.le_trans (put_len h (by simpa using hl)) (by decide)) a ca) ?_ (hpre := by exact ch_ex (by repeat (first | exact .head _ | apply Pick.tail | apply Upd.tail)) hpa)
  rintro _ _ ⟨hy, hn⟩
  by_cases hm : MayC (l.map ChV.m)
  · obtain ⟨q, c, rfl, rfl⟩ := hy hm
    clear hy hn
    have hpl := put_len hm (by simpa using hl)
    have hG : getB (putB (l.map ChV.m)) = (l.map ChV.m, 0) := get_putB hm (by simp; omega)
    refine CX.fact (own_none (e := 5) (sz := 1) (by repeat (first | exact .head _ | apply Pick.tail | apply Upd.tail))) ?_
    rintro ⟨-, hc, -⟩
    repeat (first | refine CX.psA ?_ | refine CX.nil ?_ | refine CQ.thenN ?_ | refine CQ.thenR ?_ | refine CQ.thenX ?_ | refine CQ.blockN ?_ | refine CQ.blockR ?_ | refine CQ.blockX ?_ | refine CQ.blockYA ?_ | refine CC.seq ?_ | refine CC.block ?_ | refine CC.region ?_ | refine CC.skip ?_ | refine CC.ret ?_ | refine CC.exit ?_ | refine CC.condTA ?_ | refine CC.condFA ?_ | refine CC.condDTA ?_ | refine CC.condDFA ?_ | refine CX.storeA ?_ | refine CX.skipA ?_)
    refine CX.callA (bget_c (putB (l.map ChV.m)) (by omega) (some ⟨q, 0, none⟩) c hc) ?_ (hpre := by exact rdx_own (e := 5) (by repeat (first | exact .head _ | apply Pick.tail | apply Upd.tail)) rfl)
    rintro _ _ ⟨a1, c1, l1, hm1, rfl, rfl, hn1, hk1, hl1⟩
    rw [hG] at hm1
    rw [hG]
    dsimp only at hm1 ⊢
    have hll : l1.length = l.length := by simpa using congrArg List.length hm1
    repeat (first | refine CX.psA ?_ | refine CX.nil ?_ | refine CQ.thenN ?_ | refine CQ.thenR ?_ | refine CQ.thenX ?_ | refine CQ.blockN ?_ | refine CQ.blockR ?_ | refine CQ.blockX ?_ | refine CQ.blockYA ?_ | refine CC.seq ?_ | refine CC.block ?_ | refine CC.region ?_ | refine CC.skip ?_ | refine CC.ret ?_ | refine CC.exit ?_ | refine CC.condTA ?_ | refine CC.condFA ?_ | refine CC.condDTA ?_ | refine CC.condDFA ?_ | refine CX.storeA ?_ | refine CX.skipA ?_)
    refine CX.callA (eqmC_c l1 l (by omega) a1 a c1 ca (by omega)) ?_ (hpre := by exact fun y hy => ⟨ch_chs (by repeat (first | exact .head _ | apply Pick.tail | apply Upd.tail)) y hy, ch_ex (show Pick (exact x) _ _ from by repeat (first | exact .head _ | apply Pick.tail | apply Upd.tail)) hpa y hy⟩)
    rw [decide_eq_true hm1]
    rintro _ _ ⟨rfl, rfl⟩
    repeat (first | refine CX.psA ?_ | refine CX.nil ?_ | refine CQ.thenN ?_ | refine CQ.thenR ?_ | refine CQ.thenX ?_ | refine CQ.blockN ?_ | refine CQ.blockR ?_ | refine CQ.blockX ?_ | refine CQ.blockYA ?_ | refine CC.seq ?_ | refine CC.block ?_ | refine CC.region ?_ | refine CC.skip ?_ | refine CC.ret ?_ | refine CC.exit ?_ | refine CC.condTA ?_ | refine CC.condFA ?_ | refine CC.condDTA ?_ | refine CC.condDFA ?_ | refine CX.storeA ?_ | refine CX.skipA ?_)
    refine CX.callA (bget_c B (by omega) b cb' hcb) ?_ (hpre := by exact rdx_ex (by repeat (first | exact .head _ | apply Pick.tail | apply Upd.tail)) hpb)
    rintro _ _ ⟨a9, c9, l9, hm9, rfl, rfl, hn9, hk9, hl9⟩
    by_cases he : (getB B).2 = 0
    · obtain ⟨hmay, hput, -⟩ := put_getB (b := B) (l := (getB B).1) (by rw [← he])
      rw [he]
      rw [← hm9] at hmay hput
      repeat (first | refine CX.psA ?_ | refine CX.nil ?_ | refine CQ.thenN ?_ | refine CQ.thenR ?_ | refine CQ.thenX ?_ | refine CQ.blockN ?_ | refine CQ.blockR ?_ | refine CQ.blockX ?_ | refine CQ.blockYA ?_ | refine CC.seq ?_ | refine CC.block ?_ | refine CC.region ?_ | refine CC.skip ?_ | refine CC.ret ?_ | refine CC.exit ?_ | refine CC.condTA ?_ | refine CC.condFA ?_ | refine CC.condDTA ?_ | refine CC.condDFA ?_ | refine CX.storeA ?_ | refine CX.skipA ?_)
      refine CX.callA (bput_c l9 (by omega) (fun h => by rw [hput]; omega) a9 c9) ?_ (hpre := by exact ch_chs (by repeat (first | exact .head _ | apply Pick.tail | apply Upd.tail)))
      rintro _ _ ⟨hy, -⟩
      obtain ⟨q9, k9, rfl, rfl⟩ := hy hmay
      repeat (first | refine CX.psA ?_ | refine CX.nil ?_ | refine CQ.thenN ?_ | refine CQ.thenR ?_ | refine CQ.thenX ?_ | refine CQ.blockN ?_ | refine CQ.blockR ?_ | refine CQ.blockX ?_ | refine CQ.blockYA ?_ | refine CC.seq ?_ | refine CC.block ?_ | refine CC.region ?_ | refine CC.skip ?_ | refine CC.ret ?_ | refine CC.exit ?_ | refine CC.condTA ?_ | refine CC.condFA ?_ | refine CC.condDTA ?_ | refine CC.condDFA ?_ | refine CX.storeA ?_ | refine CX.skipA ?_)
      refine CX.callA (same_c (putB (l9.map ChV.m)) B (some ⟨q9, 0, none⟩) b k9 cb') ?_ (hpre := by exact fun y hy => ⟨rdx_own (e := 5) (by repeat (first | exact .head _ | apply Pick.tail | apply Upd.tail)) rfl y hy, rdx_ex (show Pick (exact x) _ _ from by repeat (first | exact .head _ | apply Pick.tail | apply Upd.tail)) hpb y hy⟩)
      rw [decide_eq_true hput]
      rintro _ _ ⟨rfl, rfl⟩
      repeat (first | refine CX.psA ?_ | refine CX.nil ?_ | refine CQ.thenN ?_ | refine CQ.thenR ?_ | refine CQ.thenX ?_ | refine CQ.blockN ?_ | refine CQ.blockR ?_ | refine CQ.blockX ?_ | refine CQ.blockYA ?_ | refine CC.seq ?_ | refine CC.block ?_ | refine CC.region ?_ | refine CC.skip ?_ | refine CC.ret ?_ | refine CC.exit ?_ | refine CC.condTA ?_ | refine CC.condFA ?_ | refine CC.condDTA ?_ | refine CC.condDFA ?_ | refine CX.storeA ?_ | refine CX.skipA ?_)
      refine CX.callA (lives8_c) ?_
      rintro _ _ ⟨rfl, rfl⟩
      repeat (first | refine CX.psA ?_ | refine CX.nil ?_ | refine CQ.thenN ?_ | refine CQ.thenR ?_ | refine CQ.thenX ?_ | refine CQ.blockN ?_ | refine CQ.blockR ?_ | refine CQ.blockX ?_ | refine CQ.blockYA ?_ | refine CC.seq ?_ | refine CC.block ?_ | refine CC.region ?_ | refine CC.skip ?_ | refine CC.ret ?_ | refine CC.exit ?_ | refine CC.condTA ?_ | refine CC.condFA ?_ | refine CC.condDTA ?_ | refine CC.condDFA ?_ | refine CX.storeA ?_ | refine CX.skipA ?_)
      ((apply CQ.end1; (· rfl); (· exact .tmp rfl)); (· exact ⟨rfl, rfl⟩); (· repeat (first | exact Sel.nil _ | (apply Sel.cons; (· repeat (first | exact .head _ | apply Pick.tail | apply Upd.tail))))))
    · have hl9' : l9.length = 0 := by
        have := congrArg List.length hm9
        rw [getB_bad he] at this
        simpa using this
      repeat (first | refine CX.psA ?_ | refine CX.nil ?_ | refine CQ.thenN ?_ | refine CQ.thenR ?_ | refine CQ.thenX ?_ | refine CQ.blockN ?_ | refine CQ.blockR ?_ | refine CQ.blockX ?_ | refine CQ.blockYA ?_ | refine CC.seq ?_ | refine CC.block ?_ | refine CC.region ?_ | refine CC.skip ?_ | refine CC.ret ?_ | refine CC.exit ?_ | refine CC.condTA ?_ | refine CC.condFA ?_ | refine CC.condDTA ?_ | refine CC.condDFA ?_ | refine CX.storeA ?_ | refine CX.skipA ?_)
      refine CX.callA (lives8_c) ?_
      rintro _ _ ⟨rfl, rfl⟩
      repeat (first | refine CX.psA ?_ | refine CX.nil ?_ | refine CQ.thenN ?_ | refine CQ.thenR ?_ | refine CQ.thenX ?_ | refine CQ.blockN ?_ | refine CQ.blockR ?_ | refine CQ.blockX ?_ | refine CQ.blockYA ?_ | refine CC.seq ?_ | refine CC.block ?_ | refine CC.region ?_ | refine CC.skip ?_ | refine CC.ret ?_ | refine CC.exit ?_ | refine CC.condTA ?_ | refine CC.condFA ?_ | refine CC.condDTA ?_ | refine CC.condDFA ?_ | refine CX.storeA ?_ | refine CX.skipA ?_)
      ((apply CQ.end1; (· rfl); (· exact .tmp rfl)); (· exact ⟨rfl, rfl⟩); (· repeat (first | exact Sel.nil _ | (apply Sel.cons; (· repeat (first | exact .head _ | apply Pick.tail | apply Upd.tail))))))
  · obtain ⟨rfl, rfl⟩ := hn hm
    clear hy hn
    repeat (first | refine CX.psA ?_ | refine CX.nil ?_ | refine CQ.thenN ?_ | refine CQ.thenR ?_ | refine CQ.thenX ?_ | refine CQ.blockN ?_ | refine CQ.blockR ?_ | refine CQ.blockX ?_ | refine CQ.blockYA ?_ | refine CC.seq ?_ | refine CC.block ?_ | refine CC.region ?_ | refine CC.skip ?_ | refine CC.ret ?_ | refine CC.exit ?_ | refine CC.condTA ?_ | refine CC.condFA ?_ | refine CC.condDTA ?_ | refine CC.condDFA ?_ | refine CX.storeA ?_ | refine CX.skipA ?_)
    refine CX.callA (bget_c B (by omega) b cb' hcb) ?_ (hpre := by exact rdx_ex (by repeat (first | exact .head _ | apply Pick.tail | apply Upd.tail)) hpb)
    rintro _ _ ⟨a9, c9, l9, hm9, rfl, rfl, hn9, hk9, hl9⟩
    by_cases he : (getB B).2 = 0
    · obtain ⟨hmay, hput, -⟩ := put_getB (b := B) (l := (getB B).1) (by rw [← he])
      rw [he]
      rw [← hm9] at hmay hput
      repeat (first | refine CX.psA ?_ | refine CX.nil ?_ | refine CQ.thenN ?_ | refine CQ.thenR ?_ | refine CQ.thenX ?_ | refine CQ.blockN ?_ | refine CQ.blockR ?_ | refine CQ.blockX ?_ | refine CQ.blockYA ?_ | refine CC.seq ?_ | refine CC.block ?_ | refine CC.region ?_ | refine CC.skip ?_ | refine CC.ret ?_ | refine CC.exit ?_ | refine CC.condTA ?_ | refine CC.condFA ?_ | refine CC.condDTA ?_ | refine CC.condDFA ?_ | refine CX.storeA ?_ | refine CX.skipA ?_)
      refine CX.callA (bput_c l9 (by omega) (fun h => by rw [hput]; omega) a9 c9) ?_ (hpre := by exact ch_chs (by repeat (first | exact .head _ | apply Pick.tail | apply Upd.tail)))
      rintro _ _ ⟨hy, -⟩
      obtain ⟨q9, k9, rfl, rfl⟩ := hy hmay
      repeat (first | refine CX.psA ?_ | refine CX.nil ?_ | refine CQ.thenN ?_ | refine CQ.thenR ?_ | refine CQ.thenX ?_ | refine CQ.blockN ?_ | refine CQ.blockR ?_ | refine CQ.blockX ?_ | refine CQ.blockYA ?_ | refine CC.seq ?_ | refine CC.block ?_ | refine CC.region ?_ | refine CC.skip ?_ | refine CC.ret ?_ | refine CC.exit ?_ | refine CC.condTA ?_ | refine CC.condFA ?_ | refine CC.condDTA ?_ | refine CC.condDFA ?_ | refine CX.storeA ?_ | refine CX.skipA ?_)
      refine CX.callA (same_c (putB (l9.map ChV.m)) B (some ⟨q9, 0, none⟩) b k9 cb') ?_ (hpre := by exact fun y hy => ⟨rdx_own (e := 5) (by repeat (first | exact .head _ | apply Pick.tail | apply Upd.tail)) rfl y hy, rdx_ex (show Pick (exact x) _ _ from by repeat (first | exact .head _ | apply Pick.tail | apply Upd.tail)) hpb y hy⟩)
      rw [decide_eq_true hput]
      rintro _ _ ⟨rfl, rfl⟩
      repeat (first | refine CX.psA ?_ | refine CX.nil ?_ | refine CQ.thenN ?_ | refine CQ.thenR ?_ | refine CQ.thenX ?_ | refine CQ.blockN ?_ | refine CQ.blockR ?_ | refine CQ.blockX ?_ | refine CQ.blockYA ?_ | refine CC.seq ?_ | refine CC.block ?_ | refine CC.region ?_ | refine CC.skip ?_ | refine CC.ret ?_ | refine CC.exit ?_ | refine CC.condTA ?_ | refine CC.condFA ?_ | refine CC.condDTA ?_ | refine CC.condDFA ?_ | refine CX.storeA ?_ | refine CX.skipA ?_)
      refine CX.callA (lives8_c) ?_
      rintro _ _ ⟨rfl, rfl⟩
      repeat (first | refine CX.psA ?_ | refine CX.nil ?_ | refine CQ.thenN ?_ | refine CQ.thenR ?_ | refine CQ.thenX ?_ | refine CQ.blockN ?_ | refine CQ.blockR ?_ | refine CQ.blockX ?_ | refine CQ.blockYA ?_ | refine CC.seq ?_ | refine CC.block ?_ | refine CC.region ?_ | refine CC.skip ?_ | refine CC.ret ?_ | refine CC.exit ?_ | refine CC.condTA ?_ | refine CC.condFA ?_ | refine CC.condDTA ?_ | refine CC.condDFA ?_ | refine CX.storeA ?_ | refine CX.skipA ?_)
      ((apply CQ.end1; (· rfl); (· exact .tmp rfl)); (· exact ⟨rfl, rfl⟩); (· repeat (first | exact Sel.nil _ | (apply Sel.cons; (· repeat (first | exact .head _ | apply Pick.tail | apply Upd.tail))))))
    · have hl9' : l9.length = 0 := by
        have := congrArg List.length hm9
        rw [getB_bad he] at this
        simpa using this
      repeat (first | refine CX.psA ?_ | refine CX.nil ?_ | refine CQ.thenN ?_ | refine CQ.thenR ?_ | refine CQ.thenX ?_ | refine CQ.blockN ?_ | refine CQ.blockR ?_ | refine CQ.blockX ?_ | refine CQ.blockYA ?_ | refine CC.seq ?_ | refine CC.block ?_ | refine CC.region ?_ | refine CC.skip ?_ | refine CC.ret ?_ | refine CC.exit ?_ | refine CC.condTA ?_ | refine CC.condFA ?_ | refine CC.condDTA ?_ | refine CC.condDFA ?_ | refine CX.storeA ?_ | refine CX.skipA ?_)
      refine CX.callA (lives8_c) ?_
      rintro _ _ ⟨rfl, rfl⟩
      repeat (first | refine CX.psA ?_ | refine CX.nil ?_ | refine CQ.thenN ?_ | refine CQ.thenR ?_ | refine CQ.thenX ?_ | refine CQ.blockN ?_ | refine CQ.blockR ?_ | refine CQ.blockX ?_ | refine CQ.blockYA ?_ | refine CC.seq ?_ | refine CC.block ?_ | refine CC.region ?_ | refine CC.skip ?_ | refine CC.ret ?_ | refine CC.exit ?_ | refine CC.condTA ?_ | refine CC.condFA ?_ | refine CC.condDTA ?_ | refine CC.condDFA ?_ | refine CX.storeA ?_ | refine CX.skipA ?_)
      ((apply CQ.end1; (· rfl); (· exact .tmp rfl)); (· exact ⟨rfl, rfl⟩); (· repeat (first | exact Sel.nil _ | (apply Sel.cons; (· repeat (first | exact .head _ | apply Pick.tail | apply Upd.tail))))))
end Go.Proofs.Ytlckhaodecdbbaa
