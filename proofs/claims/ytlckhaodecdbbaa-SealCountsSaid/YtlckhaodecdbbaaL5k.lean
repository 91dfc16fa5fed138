/- What the statement SealKeeps does, step by step. -/
import Derived.Test.YtlckhaodecdbbaaLv5
set_option linter.unusedVariables false
set_option linter.unusedSimpArgs false
namespace Go.Cx
theorem pad_get {b : Blk} {i : Nat} (h1 : b.length ≤ i) (h2 : i < 108) : (padB 108 b)[i]? = some 0 := by
  unfold padB
  rw [List.getElem?_append_right h1, List.getElem?_replicate, if_pos (by omega)]
theorem pad_take (b : Blk) : (padB 108 b).take b.length = b := by simp [padB]
theorem own_fact {e sz m cap : Nat} {a : Option Addr} {xs : List Value} {L L' : List Assn} (p : Pick (own e sz a m cap xs) L L') (h0 : 0 < m) : ∀ h, Sep L h → m ≤ cap ∧ ∃ b, a = some ⟨b, 0, none⟩ := fun h hs => by
  refine ⟨(own_ok.1 (p.ok hs)).2.1, ?_⟩
  rcases own_some (p.ok hs) with ⟨_, h1, _⟩ | h1
  · omega
  · exact h1
theorem rdx_pre {g off len : Nat} {B : Blk} {y : PH} (h : rdx (some ⟨g, off, none⟩) len (cb B) y) (hl : len = B.length) (k : Nat) (hk : k ≤ B.length) : rdx (some ⟨g, off, none⟩) k (cb (B.take k)) y := by
  have := rdx_part rfl h hl 0 k (by omega)
  simpa using this
theorem set_same {B : Blk} {j : Nat} (hj : j < B.length) : B.set j (B[j] ^^^ 0) = B := by simp
theorem set_other {B : Blk} {j : Nat} (hj : j < B.length) {y : UInt8} (h : B.set j (B[j] ^^^ y) = B) : y = 0 := by
  have := congrArg (fun l : List UInt8 => l[j]?) h
  simp only [List.getElem?_set_self hj, List.getElem?_eq_getElem hj] at this
  have e := Option.some.inj this
  have e2 := congrArg UInt8.toNat e
  rw [UInt8.toNat_xor] at e2
  have e3 : y.toNat = 0 := xor_lc (c := B[j].toNat) (by rw [e2, Nat.xor_zero])
  exact UInt8.toNat_inj.1 e3
/-- With a byte changed a block is refused. -/
theorem get_set {B : Blk} (w : WB B) (v : Valid B) {j : Nat} (hj : j < B.length) (y : UInt8) : ((getM (B.set j (B[j] ^^^ y))).2.2 = 0) ↔ y.toNat = 0 := by
  constructor
  · intro h
    have := valid_set w v j (by rw [← w]; exact hj) _ (get_valid h)
    rw [set_other hj this]; rfl
  · intro h
    have e : y = 0 := UInt8.toNat_inj.1 h
    rw [e, set_same hj, get_ok v]
end Go.Cx
namespace Go.Proofs.Ytlckhaodecdbbaa
open Go.Cx
attribute [local irreducible] Go.Cx.CX Go.Cx.CC Go.Cx.CQ Go.Cx.PS Go.Cx.Ctr Go.Cx.CH
set_option maxRecDepth 10000
theorem keeps5_c (n : Nat) (hn : n ≤ top) (body : Blk) (hb : body.length ≤ 9223372036854775807) (a : Option Addr) (cap : Nat) (p y : UInt8) :
    Ctr Try.prog 6 [.int .u64 (n : Int), .slice a body.length cap, .int .u8 (p.toNat : Int), .int .u8 (y.toNat : Int)] [] (fun x => rdx a body.length (cb body) x) (fun v M => v = .bool true ∧ M = []) := by
  have hp8 := p.toNat_lt
  have hy8 := y.toNat_lt
  refine Ctr.intro Try.func6 rfl Try.ntmps6 rfl fun x w hp => ?_
  repeat (first | refine CX.psA ?_ | refine CX.nil ?_ | refine CQ.thenN ?_ | refine CQ.thenR ?_ | refine CQ.thenX ?_ | refine CQ.blockN ?_ | refine CQ.blockR ?_ | refine CQ.blockX ?_ | refine CQ.blockYA ?_ | refine CC.seq ?_ | refine CC.block ?_ | refine CC.region ?_ | refine CC.skip ?_ | refine CC.ret ?_ | refine CC.exit ?_ | refine CC.condTA ?_ | refine CC.condFA ?_ | refine CC.condDTA ?_ | refine CC.condDFA ?_ | refine CX.storeA ?_ | refine CX.skipA ?_)
  by_cases h1 : n = 0
  · have e : putM n body = (zblk, 2) := by unfold putM; rw [if_pos h1]
    (have cc := sput_c n hn body hb a cap; simp only [e] at cc; refine CX.callA cc ?_ (hpre := by exact rdx_ex (by repeat (first | exact .head _ | apply Pick.tail | apply Upd.tail)) hp); clear cc; rintro _ _ ⟨rfl, rfl⟩)
    repeat (first | refine CX.psA ?_ | refine CX.nil ?_ | refine CQ.thenN ?_ | refine CQ.thenR ?_ | refine CQ.thenX ?_ | refine CQ.blockN ?_ | refine CQ.blockR ?_ | refine CQ.blockX ?_ | refine CQ.blockYA ?_ | refine CC.seq ?_ | refine CC.block ?_ | refine CC.region ?_ | refine CC.skip ?_ | refine CC.ret ?_ | refine CC.exit ?_ | refine CC.condTA ?_ | refine CC.condFA ?_ | refine CC.condDTA ?_ | refine CC.condDFA ?_ | refine CX.storeA ?_ | refine CX.skipA ?_)
    (refine CX.allocZ (cb zblk) ?_; intro r)
    repeat (first | refine CX.psA ?_ | refine CX.nil ?_ | refine CQ.thenN ?_ | refine CQ.thenR ?_ | refine CQ.thenX ?_ | refine CQ.blockN ?_ | refine CQ.blockR ?_ | refine CQ.blockX ?_ | refine CQ.blockYA ?_ | refine CC.seq ?_ | refine CC.block ?_ | refine CC.region ?_ | refine CC.skip ?_ | refine CC.ret ?_ | refine CC.exit ?_ | refine CC.condTA ?_ | refine CC.condFA ?_ | refine CC.condDTA ?_ | refine CC.condDFA ?_ | refine CX.storeA ?_ | refine CX.skipA ?_)
    (apply CX.storeAll; (· rfl); (· rfl); (· rfl); (· repeat (first | exact .head _ | apply Pick.tail | apply Upd.tail)); (· exact WB_z.len); (· exact WB_z.len); (· exact one_cb _))
    repeat (first | refine CX.psA ?_ | refine CX.nil ?_ | refine CQ.thenN ?_ | refine CQ.thenR ?_ | refine CQ.thenX ?_ | refine CQ.blockN ?_ | refine CQ.blockR ?_ | refine CQ.blockX ?_ | refine CQ.blockYA ?_ | refine CC.seq ?_ | refine CC.block ?_ | refine CC.region ?_ | refine CC.skip ?_ | refine CC.ret ?_ | refine CC.exit ?_ | refine CC.condTA ?_ | refine CC.condFA ?_ | refine CC.condDTA ?_ | refine CC.condDFA ?_ | refine CX.storeA ?_ | refine CX.skipA ?_)
    ((apply CX.ps; (· apply PS.loadG (vs := cb (zblk)); (· rfl); (· rfl); (· exact CellsAt.all (by repeat (first | exact .head _ | apply Pick.tail | apply Upd.tail))); (· exact WB_z.len))))
    (apply CX.ps; (· apply PS.buildZ (vs := cb zblk); (· rfl); (· simp [cb_z, Value.cells])))
    (apply CX.ps; (· refine PS.toT (PS.eqlB (a := zblk) (b := zblk) ?_ ?_ ?_ ?_ ?_) ?_; (· rfl); (· rfl); (· rfl); (· exact WB_z); (· exact WB_z); (· rfl)))
    repeat (first | refine CX.psA ?_ | refine CX.nil ?_ | refine CQ.thenN ?_ | refine CQ.thenR ?_ | refine CQ.thenX ?_ | refine CQ.blockN ?_ | refine CQ.blockR ?_ | refine CQ.blockX ?_ | refine CQ.blockYA ?_ | refine CC.seq ?_ | refine CC.block ?_ | refine CC.region ?_ | refine CC.skip ?_ | refine CC.ret ?_ | refine CC.exit ?_ | refine CC.condTA ?_ | refine CC.condFA ?_ | refine CC.condDTA ?_ | refine CC.condDFA ?_ | refine CX.storeA ?_ | refine CX.skipA ?_)
    refine CX.callA (lives5_c) ?_
    rintro _ _ ⟨rfl, rfl⟩
    repeat (first | refine CX.psA ?_ | refine CX.nil ?_ | refine CQ.thenN ?_ | refine CQ.thenR ?_ | refine CQ.thenX ?_ | refine CQ.blockN ?_ | refine CQ.blockR ?_ | refine CQ.blockX ?_ | refine CQ.blockYA ?_ | refine CC.seq ?_ | refine CC.block ?_ | refine CC.region ?_ | refine CC.skip ?_ | refine CC.ret ?_ | refine CC.exit ?_ | refine CC.condTA ?_ | refine CC.condFA ?_ | refine CC.condDTA ?_ | refine CC.condDFA ?_ | refine CX.storeA ?_ | refine CX.skipA ?_)
    ((apply CQ.end1; (· rfl); (· exact .tmp rfl)); (· exact ⟨rfl, rfl⟩); (· repeat (first | exact Sel.nil _ | (apply Sel.cons; (· repeat (first | exact .head _ | apply Pick.tail | apply Upd.tail))))))
  by_cases h2 : 108 < body.length
  · have e : putM n body = (zblk, 3) := by unfold putM; rw [if_neg h1, if_pos h2]
    (have cc := sput_c n hn body hb a cap; simp only [e] at cc; refine CX.callA cc ?_ (hpre := by exact rdx_ex (by repeat (first | exact .head _ | apply Pick.tail | apply Upd.tail)) hp); clear cc; rintro _ _ ⟨rfl, rfl⟩)
    repeat (first | refine CX.psA ?_ | refine CX.nil ?_ | refine CQ.thenN ?_ | refine CQ.thenR ?_ | refine CQ.thenX ?_ | refine CQ.blockN ?_ | refine CQ.blockR ?_ | refine CQ.blockX ?_ | refine CQ.blockYA ?_ | refine CC.seq ?_ | refine CC.block ?_ | refine CC.region ?_ | refine CC.skip ?_ | refine CC.ret ?_ | refine CC.exit ?_ | refine CC.condTA ?_ | refine CC.condFA ?_ | refine CC.condDTA ?_ | refine CC.condDFA ?_ | refine CX.storeA ?_ | refine CX.skipA ?_)
    (refine CX.allocZ (cb zblk) ?_; intro r)
    repeat (first | refine CX.psA ?_ | refine CX.nil ?_ | refine CQ.thenN ?_ | refine CQ.thenR ?_ | refine CQ.thenX ?_ | refine CQ.blockN ?_ | refine CQ.blockR ?_ | refine CQ.blockX ?_ | refine CQ.blockYA ?_ | refine CC.seq ?_ | refine CC.block ?_ | refine CC.region ?_ | refine CC.skip ?_ | refine CC.ret ?_ | refine CC.exit ?_ | refine CC.condTA ?_ | refine CC.condFA ?_ | refine CC.condDTA ?_ | refine CC.condDFA ?_ | refine CX.storeA ?_ | refine CX.skipA ?_)
    (apply CX.storeAll; (· rfl); (· rfl); (· rfl); (· repeat (first | exact .head _ | apply Pick.tail | apply Upd.tail)); (· exact WB_z.len); (· exact WB_z.len); (· exact one_cb _))
    repeat (first | refine CX.psA ?_ | refine CX.nil ?_ | refine CQ.thenN ?_ | refine CQ.thenR ?_ | refine CQ.thenX ?_ | refine CQ.blockN ?_ | refine CQ.blockR ?_ | refine CQ.blockX ?_ | refine CQ.blockYA ?_ | refine CC.seq ?_ | refine CC.block ?_ | refine CC.region ?_ | refine CC.skip ?_ | refine CC.ret ?_ | refine CC.exit ?_ | refine CC.condTA ?_ | refine CC.condFA ?_ | refine CC.condDTA ?_ | refine CC.condDFA ?_ | refine CX.storeA ?_ | refine CX.skipA ?_)
    ((apply CX.ps; (· apply PS.loadG (vs := cb (zblk)); (· rfl); (· rfl); (· exact CellsAt.all (by repeat (first | exact .head _ | apply Pick.tail | apply Upd.tail))); (· exact WB_z.len))))
    (apply CX.ps; (· apply PS.buildZ (vs := cb zblk); (· rfl); (· simp [cb_z, Value.cells])))
    (apply CX.ps; (· refine PS.toT (PS.eqlB (a := zblk) (b := zblk) ?_ ?_ ?_ ?_ ?_) ?_; (· rfl); (· rfl); (· rfl); (· exact WB_z); (· exact WB_z); (· rfl)))
    repeat (first | refine CX.psA ?_ | refine CX.nil ?_ | refine CQ.thenN ?_ | refine CQ.thenR ?_ | refine CQ.thenX ?_ | refine CQ.blockN ?_ | refine CQ.blockR ?_ | refine CQ.blockX ?_ | refine CQ.blockYA ?_ | refine CC.seq ?_ | refine CC.block ?_ | refine CC.region ?_ | refine CC.skip ?_ | refine CC.ret ?_ | refine CC.exit ?_ | refine CC.condTA ?_ | refine CC.condFA ?_ | refine CC.condDTA ?_ | refine CC.condDFA ?_ | refine CX.storeA ?_ | refine CX.skipA ?_)
    refine CX.callA (lives5_c) ?_
    rintro _ _ ⟨rfl, rfl⟩
    repeat (first | refine CX.psA ?_ | refine CX.nil ?_ | refine CQ.thenN ?_ | refine CQ.thenR ?_ | refine CQ.thenX ?_ | refine CQ.blockN ?_ | refine CQ.blockR ?_ | refine CQ.blockX ?_ | refine CQ.blockYA ?_ | refine CC.seq ?_ | refine CC.block ?_ | refine CC.region ?_ | refine CC.skip ?_ | refine CC.ret ?_ | refine CC.exit ?_ | refine CC.condTA ?_ | refine CC.condFA ?_ | refine CC.condDTA ?_ | refine CC.condDFA ?_ | refine CX.storeA ?_ | refine CX.skipA ?_)
    ((apply CQ.end1; (· rfl); (· exact .tmp rfl)); (· exact ⟨rfl, rfl⟩); (· repeat (first | exact Sel.nil _ | (apply Sel.cons; (· repeat (first | exact .head _ | apply Pick.tail | apply Upd.tail))))))
  have hl : body.length ≤ 108 := by omega
  have e := putM_ok h1 hl
  have wB := sealB_WB (n := n) hl
  have gB := get_sealB (n := n) (b := body) (by omega) hn hl
  have vB := valid_sealB (n := n) (b := body) (by omega) hn hl
  (have cc := sput_c n hn body hb a cap; simp only [e] at cc; refine CX.callA cc ?_ (hpre := by exact rdx_ex (by repeat (first | exact .head _ | apply Pick.tail | apply Upd.tail)) hp); clear cc; rintro _ _ ⟨rfl, rfl⟩)
  generalize sealB n body = B at *
  have lB : B.length = 128 := wB
  have hpl := padB_len hl
  repeat (first | refine CX.psA ?_ | refine CX.nil ?_ | refine CQ.thenN ?_ | refine CQ.thenR ?_ | refine CQ.thenX ?_ | refine CQ.blockN ?_ | refine CQ.blockR ?_ | refine CQ.blockX ?_ | refine CQ.blockYA ?_ | refine CC.seq ?_ | refine CC.block ?_ | refine CC.region ?_ | refine CC.skip ?_ | refine CC.ret ?_ | refine CC.exit ?_ | refine CC.condTA ?_ | refine CC.condFA ?_ | refine CC.condDTA ?_ | refine CC.condDFA ?_ | refine CX.storeA ?_ | refine CX.skipA ?_)
  (refine CX.allocZ (cb zblk) ?_; intro r)
  repeat (first | refine CX.psA ?_ | refine CX.nil ?_ | refine CQ.thenN ?_ | refine CQ.thenR ?_ | refine CQ.thenX ?_ | refine CQ.blockN ?_ | refine CQ.blockR ?_ | refine CQ.blockX ?_ | refine CQ.blockYA ?_ | refine CC.seq ?_ | refine CC.block ?_ | refine CC.region ?_ | refine CC.skip ?_ | refine CC.ret ?_ | refine CC.exit ?_ | refine CC.condTA ?_ | refine CC.condFA ?_ | refine CC.condDTA ?_ | refine CC.condDFA ?_ | refine CX.storeA ?_ | refine CX.skipA ?_)
  (apply CX.storeAll; (· rfl); (· rfl); (· rfl); (· repeat (first | exact .head _ | apply Pick.tail | apply Upd.tail)); (· exact wB.len); (· exact WB_z.len); (· exact one_cb _))
  repeat (first | refine CX.psA ?_ | refine CX.nil ?_ | refine CQ.thenN ?_ | refine CQ.thenR ?_ | refine CQ.thenX ?_ | refine CQ.blockN ?_ | refine CQ.blockR ?_ | refine CQ.blockX ?_ | refine CQ.blockYA ?_ | refine CC.seq ?_ | refine CC.block ?_ | refine CC.region ?_ | refine CC.skip ?_ | refine CC.ret ?_ | refine CC.exit ?_ | refine CC.condTA ?_ | refine CC.condFA ?_ | refine CC.condDTA ?_ | refine CC.condDFA ?_ | refine CX.storeA ?_ | refine CX.skipA ?_)
  ((apply CX.ps; (· apply PS.loadG (vs := cb (B)); (· rfl); (· rfl); (· exact CellsAt.all (by repeat (first | exact .head _ | apply Pick.tail | apply Upd.tail))); (· exact wB.len))))
  refine CX.callA (sget_c B wB) ?_
  rintro _ _ ⟨a1, c1, rfl, rfl⟩
  rw [gB]
  dsimp only
  rw [hpl]
  refine CX.fact (own_fact (e := 5) (by repeat (first | exact .head _ | apply Pick.tail | apply Upd.tail)) (by omega)) ?_
  rintro ⟨hc1, g, rfl⟩
  repeat (first | refine CX.psA ?_ | refine CX.nil ?_ | refine CQ.thenN ?_ | refine CQ.thenR ?_ | refine CQ.thenX ?_ | refine CQ.blockN ?_ | refine CQ.blockR ?_ | refine CQ.blockX ?_ | refine CQ.blockYA ?_ | refine CC.seq ?_ | refine CC.block ?_ | refine CC.region ?_ | refine CC.skip ?_ | refine CC.ret ?_ | refine CC.exit ?_ | refine CC.condTA ?_ | refine CC.condFA ?_ | refine CC.condDTA ?_ | refine CC.condDFA ?_ | refine CX.storeA ?_ | refine CX.skipA ?_)
  refine CX.ps (PS.sliceHi (h := body.length) rfl rfl (.inr ⟨g, 0, rfl⟩) rfl rfl (by omega)) ?_
  repeat (first | refine CX.psA ?_ | refine CX.nil ?_ | refine CQ.thenN ?_ | refine CQ.thenR ?_ | refine CQ.thenX ?_ | refine CQ.blockN ?_ | refine CQ.blockR ?_ | refine CQ.blockX ?_ | refine CQ.blockYA ?_ | refine CC.seq ?_ | refine CC.block ?_ | refine CC.region ?_ | refine CC.skip ?_ | refine CC.ret ?_ | refine CC.exit ?_ | refine CC.condTA ?_ | refine CC.condFA ?_ | refine CC.condDTA ?_ | refine CC.condDFA ?_ | refine CX.storeA ?_ | refine CX.skipA ?_)
  have es := pad_take body
  have cs := same_c ((padB 108 body).take body.length) body (some ⟨g, 0, none⟩) a c1 cap
  rw [es] at cs
  refine CX.callA (cs) ?_ (hpre := by exact fun y hy => ⟨by have := rdx_pre (rdx_own (e := 5) (by repeat (first | exact .head _ | apply Pick.tail | apply Upd.tail)) hpl.symm y hy) hpl.symm body.length (by omega); rwa [es] at this, rdx_ex (by repeat (first | exact .head _ | apply Pick.tail | apply Upd.tail)) hp y hy⟩)
  clear cs
  rintro _ _ ⟨rfl, rfl⟩
  rw [decide_eq_true rfl]
  repeat (first | refine CX.psA ?_ | refine CX.nil ?_ | refine CQ.thenN ?_ | refine CQ.thenR ?_ | refine CQ.thenX ?_ | refine CQ.blockN ?_ | refine CQ.blockR ?_ | refine CQ.blockX ?_ | refine CQ.blockYA ?_ | refine CC.seq ?_ | refine CC.block ?_ | refine CC.region ?_ | refine CC.skip ?_ | refine CC.ret ?_ | refine CC.exit ?_ | refine CC.condTA ?_ | refine CC.condFA ?_ | refine CC.condDTA ?_ | refine CC.condDFA ?_ | refine CX.storeA ?_ | refine CX.skipA ?_)
  refine CC.loop (X := Nat) (fun i => [(15, .int .i64 (i : Int)), (14, .int .i64 0), (12, .slice (some ⟨g, 0, none⟩) 108 c1), (9, .pointer (some ⟨r, 0, none⟩)), (2, .int .u8 (p.toNat : Int)), (3, .int .u8 (y.toNat : Int))])
    (fun i => [own 5 1 (some ⟨g, 0, none⟩) 108 c1 (cb (padB 108 body)), bk r 29 (cb B), exact x]) (fun i => body.length ≤ i ∧ i ≤ 108) (fun i => 108 - i) body.length ⟨Nat.le_refl _, hl⟩ ⟨rfl, rfl, rfl, rfl, rfl, rfl, trivial⟩ (by repeat (first | exact Sel.nil _ | (apply Sel.cons; (· repeat (first | exact .head _ | apply Pick.tail | apply Upd.tail))))) ?_
  rintro i ⟨hi1, hi2⟩
  by_cases h3 : i < 108
  · have q := pad_get hi1 h3
    rw [List.getElem?_eq_getElem (by omega)] at q
    have q := Option.some.inj q
    repeat (first | refine CX.psA ?_ | refine CX.nil ?_ | refine CQ.thenN ?_ | refine CQ.thenR ?_ | refine CQ.thenX ?_ | refine CQ.blockN ?_ | refine CQ.blockR ?_ | refine CQ.blockX ?_ | refine CQ.blockYA ?_ | refine CC.seq ?_ | refine CC.block ?_ | refine CC.region ?_ | refine CC.skip ?_ | refine CC.ret ?_ | refine CC.exit ?_ | refine CC.condTA ?_ | refine CC.condFA ?_ | refine CC.condDTA ?_ | refine CC.condDFA ?_ | refine CX.storeA ?_ | refine CX.skipA ?_)
    (refine CX.index0 (i) ?_ ?_; (· exact h3))
    (refine CX.loadA _ (CellAt.ownB (j := i) (by repeat (first | exact .head _ | apply Pick.tail | apply Upd.tail)) (by omega)) ?_)
    rw [q, show (0 : UInt8).toNat = 0 from rfl]
    repeat (first | refine CX.psA ?_ | refine CX.nil ?_ | refine CQ.thenN ?_ | refine CQ.thenR ?_ | refine CQ.thenX ?_ | refine CQ.blockN ?_ | refine CQ.blockR ?_ | refine CQ.blockX ?_ | refine CQ.blockYA ?_ | refine CC.seq ?_ | refine CC.block ?_ | refine CC.region ?_ | refine CC.skip ?_ | refine CC.ret ?_ | refine CC.exit ?_ | refine CC.condTA ?_ | refine CC.condFA ?_ | refine CC.condDTA ?_ | refine CC.condDFA ?_ | refine CX.storeA ?_ | refine CX.skipA ?_)
    exact CQ.round (i + 1) ⟨by omega, by omega⟩ (by omega) ⟨eqI (by omega), rfl, rfl, rfl, rfl, rfl, trivial⟩ (by repeat (first | exact Sel.nil _ | (apply Sel.cons; (· repeat (first | exact .head _ | apply Pick.tail | apply Upd.tail)))))
  · repeat (first | refine CX.psA ?_ | refine CX.nil ?_ | refine CQ.thenN ?_ | refine CQ.thenR ?_ | refine CQ.thenX ?_ | refine CQ.blockN ?_ | refine CQ.blockR ?_ | refine CQ.blockX ?_ | refine CQ.blockYA ?_ | refine CC.seq ?_ | refine CC.block ?_ | refine CC.region ?_ | refine CC.skip ?_ | refine CC.ret ?_ | refine CC.exit ?_ | refine CC.condTA ?_ | refine CC.condFA ?_ | refine CC.condDTA ?_ | refine CC.condDFA ?_ | refine CX.storeA ?_ | refine CX.skipA ?_)
    refine CX.ps (PS.remN (k := .u8) p.toNat 128 (by decide) rfl rfl rfl) ?_
    repeat (first | refine CX.psA ?_ | refine CX.nil ?_ | refine CQ.thenN ?_ | refine CQ.thenR ?_ | refine CQ.thenX ?_ | refine CQ.blockN ?_ | refine CQ.blockR ?_ | refine CQ.blockX ?_ | refine CQ.blockYA ?_ | refine CC.seq ?_ | refine CC.block ?_ | refine CC.region ?_ | refine CC.skip ?_ | refine CC.ret ?_ | refine CC.exit ?_ | refine CC.condTA ?_ | refine CC.condFA ?_ | refine CC.condDTA ?_ | refine CC.condDFA ?_ | refine CX.storeA ?_ | refine CX.skipA ?_)
    refine CX.ps (PS.remN (k := .u8) p.toNat 128 (by decide) rfl rfl rfl) ?_
    have hj : p.toNat % 128 < B.length := by omega
    refine CX.ps (PS.indexArr (j := p.toNat % 128) rfl rfl rfl rfl (by omega)) ?_
    (refine CX.loadA _ (CellAt.bkB (j := p.toNat % 128) (by repeat (first | exact .head _ | apply Pick.tail | apply Upd.tail)) hj) ?_)
    repeat (first | refine CX.psA ?_ | refine CX.nil ?_ | refine CQ.thenN ?_ | refine CQ.thenR ?_ | refine CQ.thenX ?_ | refine CQ.blockN ?_ | refine CQ.blockR ?_ | refine CQ.blockX ?_ | refine CQ.blockYA ?_ | refine CC.seq ?_ | refine CC.block ?_ | refine CC.region ?_ | refine CC.skip ?_ | refine CC.ret ?_ | refine CC.exit ?_ | refine CC.condTA ?_ | refine CC.condFA ?_ | refine CC.condDTA ?_ | refine CC.condDFA ?_ | refine CX.storeA ?_ | refine CX.skipA ?_)
    refine CX.ps (PS.xorN (k := .u8) B[p.toNat % 128].toNat y.toNat rfl (UInt8.toNat_lt _) hy8 rfl rfl rfl) ?_
    refine CX.ps (PS.indexArr (j := p.toNat % 128) rfl rfl rfl rfl (by omega)) ?_
    rw [← UInt8.toNat_xor]
    (refine CX.storeBB (p.toNat % 128) (B[p.toNat % 128] ^^^ y) ?_ ?_; (· exact hj))
    have gs := get_set wB vB hj y
    have wS : WB (B.set (p.toNat % 128) (B[p.toNat % 128] ^^^ y)) := by simp [WB, lB]
    generalize B.set (p.toNat % 128) (B[p.toNat % 128] ^^^ y) = S at gs wS
    repeat (first | refine CX.psA ?_ | refine CX.nil ?_ | refine CQ.thenN ?_ | refine CQ.thenR ?_ | refine CQ.thenX ?_ | refine CQ.blockN ?_ | refine CQ.blockR ?_ | refine CQ.blockX ?_ | refine CQ.blockYA ?_ | refine CC.seq ?_ | refine CC.block ?_ | refine CC.region ?_ | refine CC.skip ?_ | refine CC.ret ?_ | refine CC.exit ?_ | refine CC.condTA ?_ | refine CC.condFA ?_ | refine CC.condDTA ?_ | refine CC.condDFA ?_ | refine CX.storeA ?_ | refine CX.skipA ?_)
    ((apply CX.ps; (· apply PS.loadG (vs := cb (S)); (· rfl); (· rfl); (· exact CellsAt.all (by repeat (first | exact .head _ | apply Pick.tail | apply Upd.tail))); (· exact wS.len))))
    refine CX.callA (sget_c S wS) ?_
    rintro _ _ ⟨a2, c2, rfl, rfl⟩
    generalize (getM S).2.2 = er at gs
    by_cases hy : y.toNat = 0
    · have he := gs.2 hy
      repeat (first | refine CX.psA ?_ | refine CX.nil ?_ | refine CQ.thenN ?_ | refine CQ.thenR ?_ | refine CQ.thenX ?_ | refine CQ.blockN ?_ | refine CQ.blockR ?_ | refine CQ.blockX ?_ | refine CQ.blockYA ?_ | refine CC.seq ?_ | refine CC.block ?_ | refine CC.region ?_ | refine CC.skip ?_ | refine CC.ret ?_ | refine CC.exit ?_ | refine CC.condTA ?_ | refine CC.condFA ?_ | refine CC.condDTA ?_ | refine CC.condDFA ?_ | refine CX.storeA ?_ | refine CX.skipA ?_)
      (refine CX.ps (PS.eqlBool true ?_ Try.underlying4 rfl rfl rfl) ?_; (· rfl))
      repeat (first | refine CX.psA ?_ | refine CX.nil ?_ | refine CQ.thenN ?_ | refine CQ.thenR ?_ | refine CQ.thenX ?_ | refine CQ.blockN ?_ | refine CQ.blockR ?_ | refine CQ.blockX ?_ | refine CQ.blockYA ?_ | refine CC.seq ?_ | refine CC.block ?_ | refine CC.region ?_ | refine CC.skip ?_ | refine CC.ret ?_ | refine CC.exit ?_ | refine CC.condTA ?_ | refine CC.condFA ?_ | refine CC.condDTA ?_ | refine CC.condDFA ?_ | refine CX.storeA ?_ | refine CX.skipA ?_)
      refine CX.callA (lives5_c) ?_
      rintro _ _ ⟨rfl, rfl⟩
      repeat (first | refine CX.psA ?_ | refine CX.nil ?_ | refine CQ.thenN ?_ | refine CQ.thenR ?_ | refine CQ.thenX ?_ | refine CQ.blockN ?_ | refine CQ.blockR ?_ | refine CQ.blockX ?_ | refine CQ.blockYA ?_ | refine CC.seq ?_ | refine CC.block ?_ | refine CC.region ?_ | refine CC.skip ?_ | refine CC.ret ?_ | refine CC.exit ?_ | refine CC.condTA ?_ | refine CC.condFA ?_ | refine CC.condDTA ?_ | refine CC.condDFA ?_ | refine CX.storeA ?_ | refine CX.skipA ?_)
      ((apply CQ.end1; (· rfl); (· exact .tmp rfl)); (· exact ⟨rfl, rfl⟩); (· repeat (first | exact Sel.nil _ | (apply Sel.cons; (· repeat (first | exact .head _ | apply Pick.tail | apply Upd.tail))))))
    · have he : ¬ er = 0 := fun e => hy (gs.1 e)
      repeat (first | refine CX.psA ?_ | refine CX.nil ?_ | refine CQ.thenN ?_ | refine CQ.thenR ?_ | refine CQ.thenX ?_ | refine CQ.blockN ?_ | refine CQ.blockR ?_ | refine CQ.blockX ?_ | refine CQ.blockYA ?_ | refine CC.seq ?_ | refine CC.block ?_ | refine CC.region ?_ | refine CC.skip ?_ | refine CC.ret ?_ | refine CC.exit ?_ | refine CC.condTA ?_ | refine CC.condFA ?_ | refine CC.condDTA ?_ | refine CC.condDFA ?_ | refine CX.storeA ?_ | refine CX.skipA ?_)
      (refine CX.ps (PS.eqlBool true ?_ Try.underlying4 rfl rfl rfl) ?_; (· rfl))
      repeat (first | refine CX.psA ?_ | refine CX.nil ?_ | refine CQ.thenN ?_ | refine CQ.thenR ?_ | refine CQ.thenX ?_ | refine CQ.blockN ?_ | refine CQ.blockR ?_ | refine CQ.blockX ?_ | refine CQ.blockYA ?_ | refine CC.seq ?_ | refine CC.block ?_ | refine CC.region ?_ | refine CC.skip ?_ | refine CC.ret ?_ | refine CC.exit ?_ | refine CC.condTA ?_ | refine CC.condFA ?_ | refine CC.condDTA ?_ | refine CC.condDFA ?_ | refine CX.storeA ?_ | refine CX.skipA ?_)
      refine CX.callA (lives5_c) ?_
      rintro _ _ ⟨rfl, rfl⟩
      repeat (first | refine CX.psA ?_ | refine CX.nil ?_ | refine CQ.thenN ?_ | refine CQ.thenR ?_ | refine CQ.thenX ?_ | refine CQ.blockN ?_ | refine CQ.blockR ?_ | refine CQ.blockX ?_ | refine CQ.blockYA ?_ | refine CC.seq ?_ | refine CC.block ?_ | refine CC.region ?_ | refine CC.skip ?_ | refine CC.ret ?_ | refine CC.exit ?_ | refine CC.condTA ?_ | refine CC.condFA ?_ | refine CC.condDTA ?_ | refine CC.condDFA ?_ | refine CX.storeA ?_ | refine CX.skipA ?_)
      ((apply CQ.end1; (· rfl); (· exact .tmp rfl)); (· exact ⟨rfl, rfl⟩); (· repeat (first | exact Sel.nil _ | (apply Sel.cons; (· repeat (first | exact .head _ | apply Pick.tail | apply Upd.tail))))))
end Go.Proofs.Ytlckhaodecdbbaa
