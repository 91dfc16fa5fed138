/- Rows as bytes (num.Row, num.GetRow), in the program. -/
import Derived.Test.YtlckhaodecdbbaaBt
import Derived.Test.YtlckhaodecdbbaaNm
set_option linter.unusedVariables false
set_option linter.unusedSimpArgs false
namespace Go.Cx
theorem rdS_of {L : List Assn} {a : Option Addr} {m : Nat} {B : Blk} (h : ∀ y, Sep L y → rdx a m (cb B) y) (hl : m = B.length) : RdS L a (m * 1) (cb B) :=
  ⟨one_cb B, fun y hy => ⟨by simp [hl], by have := h y hy; unfold rdx at this; simpa using this⟩⟩
theorem cutAt_zero (b o m sz : Nat) : cutAt (some ⟨b, o, none⟩) 0 m sz = some ⟨b, o, none⟩ := by
  unfold cutAt; split <;> simp [addr_add]
theorem getN_four {B : Blk} {at_ : Nat} : getN B (at_ : Int) 4 = if B.length < at_ then (0, 2) else if B.length - at_ < 4 then (0, 4) else (ofLe ((B.drop at_).take 4), 0) := by
  unfold getN
  have h4 : okSize 4 := by unfold okSize; omega
  by_cases h1 : B.length < at_
  · rw [if_pos h1, if_pos (.inr (.inr (by omega)))]
  · rw [if_neg h1, if_neg (by rintro (h | h | h) <;> first | exact h h4 | omega)]
    by_cases h2 : B.length - at_ < 4
    · rw [if_pos h2, if_pos (by omega)]
    · rw [if_neg h2, if_neg (by omega)]; simp
end Go.Cx
namespace Go.Proofs.Ytlckhaodecdbbaa
open Go.Cx
attribute [local irreducible] Go.Cx.CX Go.Cx.CC Go.Cx.CQ Go.Cx.PS Go.Cx.Ctr Go.Cx.CH
set_option maxRecDepth 10000
theorem row_c (B : Blk) (hB : B.length ≤ 1073741824) (a : Option Addr) (cap : Nat) (hn : a = none → B.length = 0 ∧ cap = 0) : Ctr Try.prog 121 [.slice a B.length cap] [] (fun x => rdx a B.length (cb B) x)
    (fun v M => ∃ b c, v = .slice (some ⟨b, 0, none⟩) (4 + B.length) c ∧ M = [own 5 1 (some ⟨b, 0, none⟩) (4 + B.length) c (cb (rowB B))]) := by
  refine Ctr.intro Try.func121 rfl Try.ntmps121 rfl fun x w hp => ?_
  repeat (first | refine CX.psA ?_ | refine CX.nil ?_ | refine CQ.thenN ?_ | refine CQ.thenR ?_ | refine CQ.thenX ?_ | refine CQ.blockN ?_ | refine CQ.blockR ?_ | refine CQ.blockX ?_ | refine CQ.blockYA ?_ | refine CC.seq ?_ | refine CC.block ?_ | refine CC.region ?_ | refine CC.skip ?_ | refine CC.ret ?_ | refine CC.exit ?_ | refine CC.condTA ?_ | refine CC.condFA ?_ | refine CC.condDTA ?_ | refine CC.condDFA ?_ | refine CX.storeA ?_ | refine CX.skipA ?_)
  refine CX.callA (nput_c B.length 4 (by omega) (by omega)) ?_
  rintro _ _ ⟨b, rfl, rfl⟩
  repeat (first | refine CX.psA ?_ | refine CX.nil ?_ | refine CQ.thenN ?_ | refine CQ.thenR ?_ | refine CQ.thenX ?_ | refine CQ.blockN ?_ | refine CQ.blockR ?_ | refine CQ.blockX ?_ | refine CQ.blockYA ?_ | refine CC.seq ?_ | refine CC.block ?_ | refine CC.region ?_ | refine CC.skip ?_ | refine CC.ret ?_ | refine CC.exit ?_ | refine CC.condTA ?_ | refine CC.condFA ?_ | refine CC.condDTA ?_ | refine CC.condDFA ?_ | refine CX.storeA ?_ | refine CX.skipA ?_)
  refine CX.append (m := B.length) (news := cb B) rfl rfl rfl (by repeat (first | exact .head _ | apply Pick.tail | apply Upd.tail)) (rdS_of (rdx_ex (by repeat (first | exact .head _ | apply Pick.tail | apply Upd.tail)) hp) rfl) (by omega) hn ?_
  intro a' c'
  have e : cb (le 4 B.length) ++ cb B = cb (rowB B) := by simp [rowB, cb_append]
  rw [e]
  refine CX.fact (own_fact (e := 5) (by repeat (first | exact .head _ | apply Pick.tail | apply Upd.tail)) (by omega)) ?_
  rintro ⟨hc1, q, rfl⟩
  repeat (first | refine CX.psA ?_ | refine CX.nil ?_ | refine CQ.thenN ?_ | refine CQ.thenR ?_ | refine CQ.thenX ?_ | refine CQ.blockN ?_ | refine CQ.blockR ?_ | refine CQ.blockX ?_ | refine CQ.blockYA ?_ | refine CC.seq ?_ | refine CC.block ?_ | refine CC.region ?_ | refine CC.skip ?_ | refine CC.ret ?_ | refine CC.exit ?_ | refine CC.condTA ?_ | refine CC.condFA ?_ | refine CC.condDTA ?_ | refine CC.condDFA ?_ | refine CX.storeA ?_ | refine CX.skipA ?_)
  (apply CQ.end1; (· rfl); (· exact .tmp rfl))
  · exact ⟨q, c', rfl, rfl⟩
  · repeat (first | exact Sel.nil _ | (apply Sel.cons; (· repeat (first | exact .head _ | apply Pick.tail | apply Upd.tail))))
def GotRow (B : Blk) (at_ most : Nat) (v : Value) (M : List Assn) : Prop :=
  ∃ a c, v = .tuple #[.slice a (Cx.rowAt B at_ most).1.length c, .int .i64 ((Cx.rowAt B at_ most).2.1 : Int), .int .i64 (Cx.rowAt B at_ most).2.2] ∧ M = [own 5 1 a (Cx.rowAt B at_ most).1.length c (cb (Cx.rowAt B at_ most).1)]
theorem getrow_c (B : Blk) (hB : B.length ≤ 70368744177664) (a : Option Addr) (cap : Nat) (hcap : B.length ≤ cap) (at_ most : Nat) (hat : at_ ≤ 70368744177664) (hm : most ≤ 1073741824) : Ctr Try.prog 155 [.slice a B.length cap, .int .i64 (at_ : Int), .int .i64 (most : Int)] [] (fun x => rdx a B.length (cb B) x)
    (GotRow B at_ most) := by
  unfold GotRow
  refine Ctr.intro Try.func155 rfl Try.ntmps155 rfl fun x w hp => ?_
  repeat (first | refine CX.psA ?_ | refine CX.nil ?_ | refine CQ.thenN ?_ | refine CQ.thenR ?_ | refine CQ.thenX ?_ | refine CQ.blockN ?_ | refine CQ.blockR ?_ | refine CQ.blockX ?_ | refine CQ.blockYA ?_ | refine CC.seq ?_ | refine CC.block ?_ | refine CC.region ?_ | refine CC.skip ?_ | refine CC.ret ?_ | refine CC.exit ?_ | refine CC.condTA ?_ | refine CC.condFA ?_ | refine CC.condDTA ?_ | refine CC.condDFA ?_ | refine CX.storeA ?_ | refine CX.skipA ?_)
  refine CX.callA (nget_c B a cap (at_ : Int) 4 (by omega) (by omega) (by omega)) ?_ (hpre := by exact rdx_ex (by repeat (first | exact .head _ | apply Pick.tail | apply Upd.tail)) hp)
  rw [getN_four]
  by_cases h1 : B.length < at_
  · have e : Cx.rowAt B at_ most = ([], 0, 2) := by unfold Cx.rowAt; rw [if_pos h1]
    rw [if_pos h1, e]
    rintro _ _ ⟨rfl, rfl⟩
    repeat (first | refine CX.psA ?_ | refine CX.nil ?_ | refine CQ.thenN ?_ | refine CQ.thenR ?_ | refine CQ.thenX ?_ | refine CQ.blockN ?_ | refine CQ.blockR ?_ | refine CQ.blockX ?_ | refine CQ.blockYA ?_ | refine CC.seq ?_ | refine CC.block ?_ | refine CC.region ?_ | refine CC.skip ?_ | refine CC.ret ?_ | refine CC.exit ?_ | refine CC.condTA ?_ | refine CC.condFA ?_ | refine CC.condDTA ?_ | refine CC.condDFA ?_ | refine CX.storeA ?_ | refine CX.skipA ?_)
    refine CQ.ownNil 5 1 ?_
    (apply CQ.end3; (· rfl); (· exact .tmp rfl); (· exact .tmp rfl); (· exact .tmp rfl))
    · exact ⟨none, 0, rfl, rfl⟩
    · repeat (first | exact Sel.nil _ | (apply Sel.cons; (· repeat (first | exact .head _ | apply Pick.tail | apply Upd.tail))))
  by_cases h2 : B.length - at_ < 4
  · have e : Cx.rowAt B at_ most = ([], 0, 4) := by unfold Cx.rowAt; rw [if_neg h1, if_pos h2]
    rw [if_neg h1, if_pos h2, e]
    rintro _ _ ⟨rfl, rfl⟩
    repeat (first | refine CX.psA ?_ | refine CX.nil ?_ | refine CQ.thenN ?_ | refine CQ.thenR ?_ | refine CQ.thenX ?_ | refine CQ.blockN ?_ | refine CQ.blockR ?_ | refine CQ.blockX ?_ | refine CQ.blockYA ?_ | refine CC.seq ?_ | refine CC.block ?_ | refine CC.region ?_ | refine CC.skip ?_ | refine CC.ret ?_ | refine CC.exit ?_ | refine CC.condTA ?_ | refine CC.condFA ?_ | refine CC.condDTA ?_ | refine CC.condDFA ?_ | refine CX.storeA ?_ | refine CX.skipA ?_)
    refine CQ.ownNil 5 1 ?_
    (apply CQ.end3; (· rfl); (· exact .tmp rfl); (· exact .tmp rfl); (· exact .tmp rfl))
    · exact ⟨none, 0, rfl, rfl⟩
    · repeat (first | exact Sel.nil _ | (apply Sel.cons; (· repeat (first | exact .head _ | apply Pick.tail | apply Upd.tail))))
  have hn32 := ofLe_lt ((B.drop at_).take 4)
  rw [show ((B.drop at_).take 4).length = 4 by simp; omega] at hn32
  have hrow : Cx.rowAt B at_ most = if most < ofLe ((B.drop at_).take 4) then ([], 0, 3) else if B.length - (at_ + 4) < ofLe ((B.drop at_).take 4) then ([], 0, 4)
    else ((B.drop (at_ + 4)).take (ofLe ((B.drop at_).take 4)), at_ + 4 + ofLe ((B.drop at_).take 4), 0) := by
    unfold Cx.rowAt; rw [if_neg h1, if_neg h2]
  rw [if_neg h1, if_neg h2]
  generalize ofLe ((B.drop at_).take 4) = k at hn32 hrow
  rintro _ _ ⟨rfl, rfl⟩
  by_cases h3 : most < k
  · rw [hrow, if_pos h3]
    repeat (first | refine CX.psA ?_ | refine CX.nil ?_ | refine CQ.thenN ?_ | refine CQ.thenR ?_ | refine CQ.thenX ?_ | refine CQ.blockN ?_ | refine CQ.blockR ?_ | refine CQ.blockX ?_ | refine CQ.blockYA ?_ | refine CC.seq ?_ | refine CC.block ?_ | refine CC.region ?_ | refine CC.skip ?_ | refine CC.ret ?_ | refine CC.exit ?_ | refine CC.condTA ?_ | refine CC.condFA ?_ | refine CC.condDTA ?_ | refine CC.condDFA ?_ | refine CX.storeA ?_ | refine CX.skipA ?_)
    refine CQ.ownNil 5 1 ?_
    (apply CQ.end3; (· rfl); (· exact .tmp rfl); (· exact .tmp rfl); (· exact .tmp rfl))
    · exact ⟨none, 0, rfl, rfl⟩
    · repeat (first | exact Sel.nil _ | (apply Sel.cons; (· repeat (first | exact .head _ | apply Pick.tail | apply Upd.tail))))
  obtain ⟨g, off, rfl⟩ := rdx_some hp (by omega)
  by_cases h4 : B.length - (at_ + 4) < k
  · rw [hrow, if_neg h3, if_pos h4]
    repeat (first | refine CX.psA ?_ | refine CX.nil ?_ | refine CQ.thenN ?_ | refine CQ.thenR ?_ | refine CQ.thenX ?_ | refine CQ.blockN ?_ | refine CQ.blockR ?_ | refine CQ.blockX ?_ | refine CQ.blockYA ?_ | refine CC.seq ?_ | refine CC.block ?_ | refine CC.region ?_ | refine CC.skip ?_ | refine CC.ret ?_ | refine CC.exit ?_ | refine CC.condTA ?_ | refine CC.condFA ?_ | refine CC.condDTA ?_ | refine CC.condDFA ?_ | refine CX.storeA ?_ | refine CX.skipA ?_)
    refine CX.ps (PS.sliceLo (l := at_ + 4) rfl rfl rfl (by simp) (by omega) (by omega)) ?_
    repeat (first | refine CX.psA ?_ | refine CX.nil ?_ | refine CQ.thenN ?_ | refine CQ.thenR ?_ | refine CQ.thenX ?_ | refine CQ.blockN ?_ | refine CQ.blockR ?_ | refine CQ.blockX ?_ | refine CQ.blockYA ?_ | refine CC.seq ?_ | refine CC.block ?_ | refine CC.region ?_ | refine CC.skip ?_ | refine CC.ret ?_ | refine CC.exit ?_ | refine CC.condTA ?_ | refine CC.condFA ?_ | refine CC.condDTA ?_ | refine CC.condDFA ?_ | refine CX.storeA ?_ | refine CX.skipA ?_)
    refine CQ.ownNil 5 1 ?_
    (apply CQ.end3; (· rfl); (· exact .tmp rfl); (· exact .tmp rfl); (· exact .tmp rfl))
    · exact ⟨none, 0, rfl, rfl⟩
    · repeat (first | exact Sel.nil _ | (apply Sel.cons; (· repeat (first | exact .head _ | apply Pick.tail | apply Upd.tail))))
  · rw [hrow, if_neg h3, if_neg h4]
    have hlen : ((B.drop (at_ + 4)).take k).length = k := by simp; omega
    repeat (first | refine CX.psA ?_ | refine CX.nil ?_ | refine CQ.thenN ?_ | refine CQ.thenR ?_ | refine CQ.thenX ?_ | refine CQ.blockN ?_ | refine CQ.blockR ?_ | refine CQ.blockX ?_ | refine CQ.blockYA ?_ | refine CC.seq ?_ | refine CC.block ?_ | refine CC.region ?_ | refine CC.skip ?_ | refine CC.ret ?_ | refine CC.exit ?_ | refine CC.condTA ?_ | refine CC.condFA ?_ | refine CC.condDTA ?_ | refine CC.condDFA ?_ | refine CX.storeA ?_ | refine CX.skipA ?_)
    refine CX.ps (PS.sliceLo (l := at_ + 4) rfl rfl rfl (by simp) (by omega) (by omega)) ?_
    repeat (first | refine CX.psA ?_ | refine CX.nil ?_ | refine CQ.thenN ?_ | refine CQ.thenR ?_ | refine CQ.thenX ?_ | refine CQ.blockN ?_ | refine CQ.blockR ?_ | refine CQ.blockX ?_ | refine CQ.blockYA ?_ | refine CC.seq ?_ | refine CC.block ?_ | refine CC.region ?_ | refine CC.skip ?_ | refine CC.ret ?_ | refine CC.exit ?_ | refine CC.condTA ?_ | refine CC.condFA ?_ | refine CC.condDTA ?_ | refine CC.condDFA ?_ | refine CX.storeA ?_ | refine CX.skipA ?_)
    refine CX.ps (PS.slice3 (l := 0) (h := k) (m := k) rfl rfl rfl rfl rfl (.inl ⟨rfl, rfl⟩) ⟨_, rfl⟩ (by omega) (by omega) (by omega)) ?_
    rw [cutAt_zero]
    refine CX.ownNil 5 1 ?_
    have hr : ∀ y, Sep [own 5 1 none 0 0 [], exact x] y → rdx (some ⟨g, if cap = at_ + 4 then off else off + (at_ + 4) * 1, none⟩) (k - 0) (cb ((B.drop (at_ + 4)).take k)) y := fun y hy => by
      by_cases hc : cap = at_ + 4
      · exact .inl (by omega)
      · rw [if_neg hc, Nat.mul_one, Nat.sub_zero]
        exact rdx_part rfl (rdx_ex (show Pick (exact x) [own 5 1 none 0 0 [], exact x] _ from by repeat (first | exact .head _ | apply Pick.tail | apply Upd.tail)) hp y hy) rfl (at_ + 4) k (by omega)
    refine CX.append (m := k - 0) (c := k - 0) (news := cb ((B.drop (at_ + 4)).take k)) rfl rfl rfl (by repeat (first | exact .head _ | apply Pick.tail | apply Upd.tail)) (rdS_of hr (by omega)) (by omega) (fun h => by cases h) ?_
    intro a' c'
    rw [List.nil_append, Nat.zero_add, Nat.sub_zero]
    repeat (first | refine CX.psA ?_ | refine CX.nil ?_ | refine CQ.thenN ?_ | refine CQ.thenR ?_ | refine CQ.thenX ?_ | refine CQ.blockN ?_ | refine CQ.blockR ?_ | refine CQ.blockX ?_ | refine CQ.blockYA ?_ | refine CC.seq ?_ | refine CC.block ?_ | refine CC.region ?_ | refine CC.skip ?_ | refine CC.ret ?_ | refine CC.exit ?_ | refine CC.condTA ?_ | refine CC.condFA ?_ | refine CC.condDTA ?_ | refine CC.condDFA ?_ | refine CX.storeA ?_ | refine CX.skipA ?_)
    (apply CQ.end3; (· rfl); (· exact .tmp rfl); (· exact .tmp rfl); (· exact .tmp rfl))
    · exact ⟨a', c', by rw [hlen]; simp, by rw [hlen]⟩
    · repeat (first | exact Sel.nil _ | (apply Sel.cons; (· repeat (first | exact .head _ | apply Pick.tail | apply Upd.tail))))
end Go.Proofs.Ytlckhaodecdbbaa
