/- What the statements of layer 4 do, step by step: writes, then more. -/
import Derived.Test.YtlckhaodecdbbaaL4
set_option linter.unusedVariables false
set_option linter.unusedSimpArgs false
namespace Go.Proofs.Ytlckhaodecdbbaa
open Go.Cx
attribute [local irreducible] Go.Cx.CX Go.Cx.CC Go.Cx.CQ Go.Cx.PS Go.Cx.Ctr Go.Cx.CH
set_option maxRecDepth 10000

/-- A disk that is not armed. -/
structure Lv (i : Nat) (D : DS) : Prop where
  wf : D.wf i
  len : D.sure.length = 64
  dark : D.dark = false
  left : D.left = 0
theorem Lv_new : Lv 0 (DS.new 64) := ⟨new_wf (by omega) (by omega), by simp [DS.new], rfl, rfl⟩
theorem Lv.lit {i : Nat} {D : DS} (h : Lv i D) (n : Nat) (hn : n < 64) : D.lit (n : Int) = 0 := by
  have := h.len
  simp [DS.lit, h.dark, DS.there, errOf, this]; omega
theorem Lv.there {i : Nat} {D : DS} (h : Lv i D) (n : Nat) (hn : n < 64) : D.there (n : Int) = 0 := by
  have := h.len
  simp [DS.there, errOf, this]; omega
theorem Lv.step {i : Nat} {D : DS} (h : Lv i D) : D.step = (0, { D with steps := D.steps + 1 }) := by
  obtain ⟨S, l, left, steps, dark⟩ := D
  have h1 := h.left
  simp only at h1; subst h1
  simp [DS.step]; omega
theorem Lv.write {i : Nat} {D : DS} (h : Lv i D) (n : Nat) (hn : n < 64) {b : Blk} (hb : WB b) : D.write n b = (0, { D with steps := D.steps + 1, loose := D.loose ++ [(n, b)] }) ∧ Lv (i + 1) { D with steps := D.steps + 1, loose := D.loose ++ [(n, b)] } := by
  refine ⟨by simp [DS.write, h.lit n hn, h.step], ⟨⟨h.wf.lo, h.wf.hi, h.wf.wb, fun p hp => ?_, h.wf.left0, h.wf.left1, by have := h.wf.steps; simp; omega, by have := h.wf.loose; simp; omega⟩, h.len, h.dark, h.left⟩⟩
  simp only [List.mem_append, List.mem_singleton] at hp
  rcases hp with hp | rfl
  · exact h.wf.lb p hp
  · exact ⟨by rw [h.len]; exact hn, hb⟩
theorem Lv.flush {i : Nat} {D : DS} (h : Lv i D) : ∃ D', D.flush = (0, D') ∧ Lv (i + 1) D' ∧ D'.loose = [] := by
  have h0 : D.lit 0 = 0 := h.lit 0 (by omega)
  refine ⟨({ D with steps := D.steps + 1 } : DS).settle [] 128, by simp [DS.flush, h0, h.step], ?_, rfl⟩
  have hw : ({ D with steps := D.steps + 1 } : DS).wf (i + 1) := ⟨h.wf.lo, h.wf.hi, h.wf.wb, h.wf.lb, h.wf.left0, h.wf.left1, by have := h.wf.steps; simp; omega, by have := h.wf.loose; simp; omega⟩
  exact ⟨settle_wf hw _ _, by simp [DS.settle, length_settleL, h.len], h.dark, h.left⟩
theorem Lv.crash {i : Nat} {D : DS} (h : Lv i D) (picks : List Int) : Lv i (D.crash picks) ∧ (D.crash picks).loose = [] := by
  have hw := settle_wf h.wf picks 0
  exact ⟨⟨⟨hw.lo, hw.hi, hw.wb, hw.lb, by simp [DS.crash], by simp [DS.crash], hw.steps, hw.loose⟩, by simp [DS.crash, DS.settle, length_settleL, h.len], rfl, rfl⟩, rfl⟩
theorem settleL_ne (picks : List Int) (o k : Nat) (l : List (Nat × Blk)) : ∀ (S : List Blk) (i : Nat), (∀ p ∈ l, p.1 ≠ k) → (settleL S picks o i l).getD k [] = S.getD k [] := by
  induction l with
  | nil => intro S i _; rfl
  | cons q l ih =>
    intro S i h
    simp only [settleL]
    rw [ih _ _ fun p hp => h p (by simp [hp])]
    simp [List.getElem?_set_ne (h q (by simp))]
theorem Lv.read {i : Nat} {D : DS} (h : Lv i D) (k : Nat) (hk : k < 64) (hl : D.loose = []) : D.read k = (D.sure.getD k [], 0) ∧ D.sureAt k = (D.sure.getD k [], 0) ∧ WB (D.sure.getD k []) := by
  refine ⟨?_, ?_, getD_WB h.wf.wb (by rw [h.len]; exact hk)⟩
  · simp [DS.read, h.lit k hk, DS.get, hl]
  · simp [DS.sureAt, h.there k hk]

theorem written4_c (l : List (Nat × Blk)) (hl : ∀ p ∈ l, p.1 < 256 ∧ WB p.2) (a : Option Addr) (c : Nat) : Ctr Try.prog 28 [.slice a l.length c] [] (rdx a (l.length * 129) (rows pu l)) (fun v M => ∃ d D, v = .tuple #[.pointer (some ⟨d, 0, none⟩), .bool true] ∧ M = [disk d D] ∧ Lv 40 D) := by
  refine Ctr.intro Try.func28 rfl Try.ntmps28 rfl fun x w hp => ?_
  repeat (first | refine CX.psA ?_ | refine CX.nil ?_ | refine CQ.thenN ?_ | refine CQ.thenR ?_ | refine CQ.thenX ?_ | refine CQ.blockN ?_ | refine CQ.blockR ?_ | refine CQ.blockX ?_ | refine CQ.blockYA ?_ | refine CC.seq ?_ | refine CC.block ?_ | refine CC.region ?_ | refine CC.skip ?_ | refine CC.ret ?_ | refine CC.exit ?_ | refine CC.condTA ?_ | refine CC.condFA ?_ | refine CC.condDTA ?_ | refine CC.condDFA ?_ | refine CX.storeA ?_ | refine CX.skipA ?_)
  refine CX.callA (new_c 64) ?_
  rintro _ _ (⟨-, -, d, rfl, rfl⟩ | ⟨h, -, -⟩)
  · repeat (first | refine CX.psA ?_ | refine CX.nil ?_ | refine CQ.thenN ?_ | refine CQ.thenR ?_ | refine CQ.thenX ?_ | refine CQ.blockN ?_ | refine CQ.blockR ?_ | refine CQ.blockX ?_ | refine CQ.blockYA ?_ | refine CC.seq ?_ | refine CC.block ?_ | refine CC.region ?_ | refine CC.skip ?_ | refine CC.ret ?_ | refine CC.exit ?_ | refine CC.condTA ?_ | refine CC.condFA ?_ | refine CC.condDTA ?_ | refine CC.condDFA ?_ | refine CX.storeA ?_ | refine CX.skipA ?_)
    refine CC.loop (X := Nat × DS) (fun s => [(4, .pointer (some ⟨d, 0, none⟩)), (5, .int .i64 0), (6, .int .i64 (s.1 : Int)), (0, .slice a l.length c)])
      (fun s => [disk d s.2, exact x]) (fun s => s.1 ≤ 40 ∧ Lv s.1 s.2) (fun s => 40 - s.1) (0, DS.new 64) ⟨by simp, Lv_new⟩ ⟨rfl, rfl, rfl, rfl, trivial⟩ (by repeat (first | exact Sel.nil _ | (apply Sel.cons; (· repeat (first | exact .head _ | apply Pick.tail | apply Upd.tail))))) ?_
    rintro ⟨i, D⟩ ⟨hi, hJ⟩
    dsimp only at hi hJ ⊢
    by_cases h1 : i < l.length
    · by_cases h2 : i < 40
      · obtain ⟨g, off, cs, t, fr, rfl, hx, hN, hB⟩ := puts_at hl hp i h1
        have hb := (hl l[i] (by simp)).2
        obtain ⟨hf, hL⟩ := hJ.write (l[i].1 % 16) (by omega) hb
        repeat (first | refine CX.psA ?_ | refine CX.nil ?_ | refine CQ.thenN ?_ | refine CQ.thenR ?_ | refine CQ.thenX ?_ | refine CQ.blockN ?_ | refine CQ.blockR ?_ | refine CQ.blockX ?_ | refine CQ.blockYA ?_ | refine CC.seq ?_ | refine CC.block ?_ | refine CC.region ?_ | refine CC.skip ?_ | refine CC.ret ?_ | refine CC.exit ?_ | refine CC.condTA ?_ | refine CC.condFA ?_ | refine CC.condDTA ?_ | refine CC.condDFA ?_ | refine CX.storeA ?_ | refine CX.skipA ?_)
        refine CC.draw [(0, 0), (1, 0), (2, 0), (3, 0), (4, 0), (5, 1), (6, 0), (7, 0), (8, 0), (9, 0), (10, 0), (11, 0), (12, 1), (13, 2), (14, 0)] mixed rfl (by kernel_rfl) (by kernel_rfl) [exact x] ?_
        repeat (first | refine CH.pureA ?_ | refine CH.readA ?_ | refine CH.skA ?_ | refine CH.skCA ?_ | refine CH.nil ?_)
        (apply CH.pure; (· rfl); (· apply PS.indexAddr (j := i); (· rfl); (· rfl); (· rfl); (· rfl); (· exact h1)))
        repeat (first | refine CH.pureA ?_ | refine CH.readA ?_ | refine CH.skA ?_ | refine CH.skCA ?_ | refine CH.nil ?_)
        (apply CH.read; (· rfl); (· apply PS.load (v := .int .u8 (l[i].1 : Int)); (· rfl); (· rfl); (· exact CellAt.exact (by repeat (first | exact .head _ | apply Pick.tail | apply Upd.tail)) ⟨cs, t, fr, hx, hN⟩)); (· repeat (first | exact Sel.nil _ | (apply Sel.cons; (· repeat (first | exact .head _ | apply Pick.tail | apply Upd.tail))))))
        (apply CH.pure; (· rfl); (· apply PS.rem (z := ((l[i].1 % 16 : Nat) : Int)); (· rfl); (· rfl); (· rfl); (· decide); (· exact tmod_nn (by omega))))
        repeat (first | refine CH.pureA ?_ | refine CH.readA ?_ | refine CH.skA ?_ | refine CH.skCA ?_ | refine CH.nil ?_)
        (apply CH.pure; (· rfl); (· apply PS.indexAddr (j := i); (· rfl); (· rfl); (· rfl); (· rfl); (· exact h1)))
        repeat (first | refine CH.pureA ?_ | refine CH.readA ?_ | refine CH.skA ?_ | refine CH.skCA ?_ | refine CH.nil ?_)
        (apply CH.read; (· rfl); (· apply PS.loadG (vs := cb l[i].2); (· rfl); (· rfl); (· exact CellsAt.exact (by repeat (first | exact .head _ | apply Pick.tail | apply Upd.tail)) ⟨cs, t, fr, hx, hB⟩); (· exact hb.len)); (· repeat (first | exact Sel.nil _ | (apply Sel.cons; (· repeat (first | exact .head _ | apply Pick.tail | apply Upd.tail))))))
        refine CH.chain rfl fun K hK => ?_
        (have cc := write_c d D ((l[i].1 % 16 : Nat) : Int) l[i].2 hb hJ.wf (by omega); simp only [hf] at cc; refine CX.callA cc ?_; clear cc; rintro _ _ ⟨rfl, rfl⟩)
        (refine CX.nil ?_; refine CQ.thenK ?_; apply hK; (· repeat (first | exact Sel.nil _ | (apply Sel.cons; (· repeat (first | exact .head _ | apply Pick.tail | apply Upd.tail))))); clear hK K)
        repeat (first | refine CH.pureA ?_ | refine CH.readA ?_ | refine CH.skA ?_ | refine CH.skCA ?_ | refine CH.nil ?_)
        repeat (first | refine CX.psA ?_ | refine CX.nil ?_ | refine CQ.thenN ?_ | refine CQ.thenR ?_ | refine CQ.thenX ?_ | refine CQ.blockN ?_ | refine CQ.blockR ?_ | refine CQ.blockX ?_ | refine CQ.blockYA ?_ | refine CC.seq ?_ | refine CC.block ?_ | refine CC.region ?_ | refine CC.skip ?_ | refine CC.ret ?_ | refine CC.exit ?_ | refine CC.condTA ?_ | refine CC.condFA ?_ | refine CC.condDTA ?_ | refine CC.condDFA ?_ | refine CX.storeA ?_ | refine CX.skipA ?_)
        exact CQ.round (x := (i, D)) (i + 1, _) ⟨by dsimp only; omega, hL⟩ (by dsimp only; omega) ⟨rfl, rfl, eqI (by dsimp only; omega), rfl, trivial⟩ (by repeat (first | exact Sel.nil _ | (apply Sel.cons; (· repeat (first | exact .head _ | apply Pick.tail | apply Upd.tail)))))
      · repeat (first | refine CX.psA ?_ | refine CX.nil ?_ | refine CQ.thenN ?_ | refine CQ.thenR ?_ | refine CQ.thenX ?_ | refine CQ.blockN ?_ | refine CQ.blockR ?_ | refine CQ.blockX ?_ | refine CQ.blockYA ?_ | refine CC.seq ?_ | refine CC.block ?_ | refine CC.region ?_ | refine CC.skip ?_ | refine CC.ret ?_ | refine CC.exit ?_ | refine CC.condTA ?_ | refine CC.condFA ?_ | refine CC.condDTA ?_ | refine CC.condDFA ?_ | refine CX.storeA ?_ | refine CX.skipA ?_)
        (apply CQ.end2; (· rfl); (· exact .tmp rfl); (· exact .tmp rfl))
        · exact ⟨d, D, rfl, rfl, ⟨wf_mono hJ.wf hi, hJ.len, hJ.dark, hJ.left⟩⟩
        · repeat (first | exact Sel.nil _ | (apply Sel.cons; (· repeat (first | exact .head _ | apply Pick.tail | apply Upd.tail))))
    · repeat (first | refine CX.psA ?_ | refine CX.nil ?_ | refine CQ.thenN ?_ | refine CQ.thenR ?_ | refine CQ.thenX ?_ | refine CQ.blockN ?_ | refine CQ.blockR ?_ | refine CQ.blockX ?_ | refine CQ.blockYA ?_ | refine CC.seq ?_ | refine CC.block ?_ | refine CC.region ?_ | refine CC.skip ?_ | refine CC.ret ?_ | refine CC.exit ?_ | refine CC.condTA ?_ | refine CC.condFA ?_ | refine CC.condDTA ?_ | refine CC.condDFA ?_ | refine CX.storeA ?_ | refine CX.skipA ?_)
      (apply CQ.end2; (· rfl); (· exact .tmp rfl); (· exact .tmp rfl))
      · exact ⟨d, D, rfl, rfl, ⟨wf_mono hJ.wf hi, hJ.len, hJ.dark, hJ.left⟩⟩
      · repeat (first | exact Sel.nil _ | (apply Sel.cons; (· repeat (first | exact .head _ | apply Pick.tail | apply Upd.tail))))
  · omega

theorem sure4_c (l more : List (Nat × Blk)) (hl : ∀ p ∈ l, p.1 < 256 ∧ WB p.2) (hm : ∀ p ∈ more, p.1 < 256 ∧ WB p.2) (at_ : Nat) (hat : at_ < 256) (picks : List Int) (a : Option Addr) (c : Nat) (a' : Option Addr) (c' : Nat) (b : Option Addr) (e : Nat) :
    Ctr Try.prog 4 [.slice a l.length c, .slice a' more.length c', .int .u8 (at_ : Int), .slice b picks.length e] []
      (fun x => rdx a (l.length * 129) (rows pu l) x ∧ rdx a' (more.length * 129) (rows pu more) x ∧ rdx b picks.length (picks.map (Value.int .i64)) x) (fun v M => v = .bool true ∧ M = []) := by
  refine Ctr.intro Try.func4 rfl Try.ntmps4 rfl fun x w hp => ?_
  obtain ⟨hp1, hp2, hp3⟩ := hp
  repeat (first | refine CX.psA ?_ | refine CX.nil ?_ | refine CQ.thenN ?_ | refine CQ.thenR ?_ | refine CQ.thenX ?_ | refine CQ.blockN ?_ | refine CQ.blockR ?_ | refine CQ.blockX ?_ | refine CQ.blockYA ?_ | refine CC.seq ?_ | refine CC.block ?_ | refine CC.region ?_ | refine CC.skip ?_ | refine CC.ret ?_ | refine CC.exit ?_ | refine CC.condTA ?_ | refine CC.condFA ?_ | refine CC.condDTA ?_ | refine CC.condDFA ?_ | refine CX.storeA ?_ | refine CX.skipA ?_)
  refine CX.callA (written4_c l hl a c) ?_ (hpre := by exact fun y hy => rdx_mono hp1 (Pick.ok (show Pick (exact x) _ _ from by repeat (first | exact .head _ | apply Pick.tail | apply Upd.tail)) hy))
  rintro _ _ ⟨d, D, rfl, rfl, hL⟩
  obtain ⟨D1, hf, hL1, hl1⟩ := hL.flush
  repeat (first | refine CX.psA ?_ | refine CX.nil ?_ | refine CQ.thenN ?_ | refine CQ.thenR ?_ | refine CQ.thenX ?_ | refine CQ.blockN ?_ | refine CQ.blockR ?_ | refine CQ.blockX ?_ | refine CQ.blockYA ?_ | refine CC.seq ?_ | refine CC.block ?_ | refine CC.region ?_ | refine CC.skip ?_ | refine CC.ret ?_ | refine CC.exit ?_ | refine CC.condTA ?_ | refine CC.condFA ?_ | refine CC.condDTA ?_ | refine CC.condDFA ?_ | refine CX.storeA ?_ | refine CX.skipA ?_)
  (have cc := flush_c d D hL.wf (by omega); simp only [hf] at cc; refine CX.callA cc ?_; clear cc; rintro _ _ ⟨rfl, rfl⟩)
  repeat (first | refine CX.psA ?_ | refine CX.nil ?_ | refine CQ.thenN ?_ | refine CQ.thenR ?_ | refine CQ.thenX ?_ | refine CQ.blockN ?_ | refine CQ.blockR ?_ | refine CQ.blockX ?_ | refine CQ.blockYA ?_ | refine CC.seq ?_ | refine CC.block ?_ | refine CC.region ?_ | refine CC.skip ?_ | refine CC.ret ?_ | refine CC.exit ?_ | refine CC.condTA ?_ | refine CC.condFA ?_ | refine CC.condDTA ?_ | refine CC.condDFA ?_ | refine CX.storeA ?_ | refine CX.skipA ?_)
  (apply CX.ps; (· apply PS.rem (z := ((at_ % 16 : Nat) : Int)); (· rfl); (· rfl); (· rfl); (· decide); (· exact tmod_nn (by omega))))
  have hk : at_ % 16 < 16 := Nat.mod_lt _ (by omega)
  generalize at_ % 16 = k at hk ⊢
  obtain ⟨hr, -, hwb⟩ := hL1.read k (by omega) hl1
  generalize hwas : D1.sure.getD k [] = was at hr hwb
  repeat (first | refine CX.psA ?_ | refine CX.nil ?_ | refine CQ.thenN ?_ | refine CQ.thenR ?_ | refine CQ.thenX ?_ | refine CQ.blockN ?_ | refine CQ.blockR ?_ | refine CQ.blockX ?_ | refine CQ.blockYA ?_ | refine CC.seq ?_ | refine CC.block ?_ | refine CC.region ?_ | refine CC.skip ?_ | refine CC.ret ?_ | refine CC.exit ?_ | refine CC.condTA ?_ | refine CC.condFA ?_ | refine CC.condDTA ?_ | refine CC.condDFA ?_ | refine CX.storeA ?_ | refine CX.skipA ?_)
  (have cc := read_c d D1 (k : Int) hL1.wf (by omega); simp only [hr] at cc; refine CX.callA cc ?_; clear cc; rintro _ _ ⟨rfl, rfl⟩)
  repeat (first | refine CX.psA ?_ | refine CX.nil ?_ | refine CQ.thenN ?_ | refine CQ.thenR ?_ | refine CQ.thenX ?_ | refine CQ.blockN ?_ | refine CQ.blockR ?_ | refine CQ.blockX ?_ | refine CQ.blockYA ?_ | refine CC.seq ?_ | refine CC.block ?_ | refine CC.region ?_ | refine CC.skip ?_ | refine CC.ret ?_ | refine CC.exit ?_ | refine CC.condTA ?_ | refine CC.condFA ?_ | refine CC.condDTA ?_ | refine CC.condDFA ?_ | refine CX.storeA ?_ | refine CX.skipA ?_)
  (refine CX.allocZ (cb zblk) ?_; intro r)
  repeat (first | refine CX.psA ?_ | refine CX.nil ?_ | refine CQ.thenN ?_ | refine CQ.thenR ?_ | refine CQ.thenX ?_ | refine CQ.blockN ?_ | refine CQ.blockR ?_ | refine CQ.blockX ?_ | refine CQ.blockYA ?_ | refine CC.seq ?_ | refine CC.block ?_ | refine CC.region ?_ | refine CC.skip ?_ | refine CC.ret ?_ | refine CC.exit ?_ | refine CC.condTA ?_ | refine CC.condFA ?_ | refine CC.condDTA ?_ | refine CC.condDFA ?_ | refine CX.storeA ?_ | refine CX.skipA ?_)
  (apply CX.storeAll; (· rfl); (· rfl); (· rfl); (· repeat (first | exact .head _ | apply Pick.tail | apply Upd.tail)); (· exact hwb.len); (· exact WB_z.len); (· exact one_cb _))
  repeat (first | refine CX.psA ?_ | refine CX.nil ?_ | refine CQ.thenN ?_ | refine CQ.thenR ?_ | refine CQ.thenX ?_ | refine CQ.blockN ?_ | refine CQ.blockR ?_ | refine CQ.blockX ?_ | refine CQ.blockYA ?_ | refine CC.seq ?_ | refine CC.block ?_ | refine CC.region ?_ | refine CC.skip ?_ | refine CC.ret ?_ | refine CC.exit ?_ | refine CC.condTA ?_ | refine CC.condFA ?_ | refine CC.condDTA ?_ | refine CC.condDFA ?_ | refine CX.storeA ?_ | refine CX.skipA ?_)
  refine CC.loop (X := Nat × DS) (fun s => [(9, .pointer (some ⟨d, 0, none⟩)), (11, .int .i64 (k : Int)), (12, .pointer (some ⟨r, 0, none⟩)), (13, .int .i64 0), (14, .int .i64 (s.1 : Int)), (1, .slice a' more.length c'), (3, .slice b picks.length e)])
    (fun s => [disk d s.2, bk r 29 (cb was), exact x]) (fun s => s.1 ≤ 40 ∧ Lv (41 + s.1) s.2 ∧ s.2.sure.getD k [] = was ∧ ∀ p ∈ s.2.loose, p.1 ≠ k) (fun s => 40 - s.1) (0, D1) ⟨by simp, hL1, hwas, by simp [hl1]⟩ ⟨rfl, rfl, rfl, rfl, rfl, rfl, rfl, trivial⟩ (by repeat (first | exact Sel.nil _ | (apply Sel.cons; (· repeat (first | exact .head _ | apply Pick.tail | apply Upd.tail))))) ?_
  rintro ⟨i, D⟩ ⟨hi, hJ, hsw, hlo⟩
  dsimp only at hi hJ hsw hlo ⊢
  by_cases hlt : i < more.length ∧ i < 40
  · obtain ⟨h1, h2⟩ := hlt
    obtain ⟨g, off, cs, t, fr, rfl, hx, hN, hB⟩ := puts_at hm hp2 i h1
    have hb := (hm more[i] (by simp)).2
    repeat (first | refine CX.psA ?_ | refine CX.nil ?_ | refine CQ.thenN ?_ | refine CQ.thenR ?_ | refine CQ.thenX ?_ | refine CQ.blockN ?_ | refine CQ.blockR ?_ | refine CQ.blockX ?_ | refine CQ.blockYA ?_ | refine CC.seq ?_ | refine CC.block ?_ | refine CC.region ?_ | refine CC.skip ?_ | refine CC.ret ?_ | refine CC.exit ?_ | refine CC.condTA ?_ | refine CC.condFA ?_ | refine CC.condDTA ?_ | refine CC.condDFA ?_ | refine CX.storeA ?_ | refine CX.skipA ?_)
    refine CX.indexA (i) (by exact h1) ?_
    repeat (first | refine CX.psA ?_ | refine CX.nil ?_ | refine CQ.thenN ?_ | refine CQ.thenR ?_ | refine CQ.thenX ?_ | refine CQ.blockN ?_ | refine CQ.blockR ?_ | refine CQ.blockX ?_ | refine CQ.blockYA ?_ | refine CC.seq ?_ | refine CC.block ?_ | refine CC.region ?_ | refine CC.skip ?_ | refine CC.ret ?_ | refine CC.exit ?_ | refine CC.condTA ?_ | refine CC.condFA ?_ | refine CC.condDTA ?_ | refine CC.condDFA ?_ | refine CX.storeA ?_ | refine CX.skipA ?_)
    (apply CX.ps; (· apply PS.load (v := .int .u8 (more[i].1 : Int)); (· rfl); (· rfl); (· exact CellAt.exact (by repeat (first | exact .head _ | apply Pick.tail | apply Upd.tail)) ⟨cs, t, fr, hx, hN⟩)))
    (apply CX.ps; (· apply PS.rem (z := ((more[i].1 % 16 : Nat) : Int)); (· rfl); (· rfl); (· rfl); (· decide); (· exact tmod_nn (by omega))))
    by_cases hn : more[i].1 % 16 = k
    · repeat (first | refine CX.psA ?_ | refine CX.nil ?_ | refine CQ.thenN ?_ | refine CQ.thenR ?_ | refine CQ.thenX ?_ | refine CQ.blockN ?_ | refine CQ.blockR ?_ | refine CQ.blockX ?_ | refine CQ.blockYA ?_ | refine CC.seq ?_ | refine CC.block ?_ | refine CC.region ?_ | refine CC.skip ?_ | refine CC.ret ?_ | refine CC.exit ?_ | refine CC.condTA ?_ | refine CC.condFA ?_ | refine CC.condDTA ?_ | refine CC.condDFA ?_ | refine CX.storeA ?_ | refine CX.skipA ?_)
      exact CQ.round (x := (i, D)) (i + 1, D) ⟨by dsimp only; omega, by rw [show 41 + (i + 1) = 41 + i + 1 by omega]; exact ⟨wf_mono hJ.wf (by omega), hJ.len, hJ.dark, hJ.left⟩, hsw, hlo⟩ (by dsimp only; omega) ⟨rfl, rfl, rfl, rfl, eqI (by dsimp only; omega), rfl, rfl, trivial⟩ (by repeat (first | exact Sel.nil _ | (apply Sel.cons; (· repeat (first | exact .head _ | apply Pick.tail | apply Upd.tail)))))
    · obtain ⟨hf, hL'⟩ := hJ.write (more[i].1 % 16) (by omega) hb
      obtain ⟨D', hD'⟩ : ∃ D', D' = ({ D with steps := D.steps + 1, loose := D.loose ++ [(more[i].1 % 16, more[i].2)] } : DS) := ⟨_, rfl⟩
      rw [← hD'] at hf hL'
      have hsw' : D'.sure.getD k [] = was := by rw [hD']; exact hsw
      have hlo' : ∀ p ∈ D'.loose, p.1 ≠ k := fun p hp => by
        rw [hD'] at hp
        simp only [List.mem_append, List.mem_singleton] at hp
        rcases hp with hp | rfl
        · exact hlo p hp
        · exact hn
      repeat (first | refine CX.psA ?_ | refine CX.nil ?_ | refine CQ.thenN ?_ | refine CQ.thenR ?_ | refine CQ.thenX ?_ | refine CQ.blockN ?_ | refine CQ.blockR ?_ | refine CQ.blockX ?_ | refine CQ.blockYA ?_ | refine CC.seq ?_ | refine CC.block ?_ | refine CC.region ?_ | refine CC.skip ?_ | refine CC.ret ?_ | refine CC.exit ?_ | refine CC.condTA ?_ | refine CC.condFA ?_ | refine CC.condDTA ?_ | refine CC.condDFA ?_ | refine CX.storeA ?_ | refine CX.skipA ?_)
      refine CX.indexA (i) (by exact h1) ?_
      repeat (first | refine CX.psA ?_ | refine CX.nil ?_ | refine CQ.thenN ?_ | refine CQ.thenR ?_ | refine CQ.thenX ?_ | refine CQ.blockN ?_ | refine CQ.blockR ?_ | refine CQ.blockX ?_ | refine CQ.blockYA ?_ | refine CC.seq ?_ | refine CC.block ?_ | refine CC.region ?_ | refine CC.skip ?_ | refine CC.ret ?_ | refine CC.exit ?_ | refine CC.condTA ?_ | refine CC.condFA ?_ | refine CC.condDTA ?_ | refine CC.condDFA ?_ | refine CX.storeA ?_ | refine CX.skipA ?_)
      (apply CX.ps; (· apply PS.loadG (vs := cb more[i].2); (· rfl); (· rfl); (· exact CellsAt.exact (by repeat (first | exact .head _ | apply Pick.tail | apply Upd.tail)) ⟨cs, t, fr, hx, hB⟩); (· exact hb.len)))
      (have cc := write_c d D ((more[i].1 % 16 : Nat) : Int) more[i].2 hb hJ.wf (by omega); simp only [hf] at cc; refine CX.callA cc ?_; clear cc; rintro _ _ ⟨rfl, rfl⟩)
      repeat (first | refine CX.psA ?_ | refine CX.nil ?_ | refine CQ.thenN ?_ | refine CQ.thenR ?_ | refine CQ.thenX ?_ | refine CQ.blockN ?_ | refine CQ.blockR ?_ | refine CQ.blockX ?_ | refine CQ.blockYA ?_ | refine CC.seq ?_ | refine CC.block ?_ | refine CC.region ?_ | refine CC.skip ?_ | refine CC.ret ?_ | refine CC.exit ?_ | refine CC.condTA ?_ | refine CC.condFA ?_ | refine CC.condDTA ?_ | refine CC.condDFA ?_ | refine CX.storeA ?_ | refine CX.skipA ?_)
      exact CQ.round (x := (i, D)) (i + 1, D') ⟨by dsimp only; omega, by rw [show 41 + (i + 1) = 41 + i + 1 by omega]; exact hL', hsw', hlo'⟩ (by dsimp only; omega) ⟨rfl, rfl, rfl, rfl, eqI (by dsimp only; omega), rfl, rfl, trivial⟩ (by repeat (first | exact Sel.nil _ | (apply Sel.cons; (· repeat (first | exact .head _ | apply Pick.tail | apply Upd.tail)))))
  · obtain ⟨hc1, hc2⟩ := hJ.crash picks
    have hcs : (D.crash picks).sure.getD k [] = was := by rw [← hsw]; exact settleL_ne picks 0 k D.loose D.sure 0 hlo
    obtain ⟨hr1, hr2, -⟩ := hc1.read k (by omega) hc2
    rw [hcs] at hr1 hr2
    generalize hcr : D.crash picks = D2 at hc1 hc2 hr1 hr2
    by_cases h1 : i < more.length
    · have h2 : i = 40 := by omega
      repeat (first | refine CX.psA ?_ | refine CX.nil ?_ | refine CQ.thenN ?_ | refine CQ.thenR ?_ | refine CQ.thenX ?_ | refine CQ.blockN ?_ | refine CQ.blockR ?_ | refine CQ.blockX ?_ | refine CQ.blockYA ?_ | refine CC.seq ?_ | refine CC.block ?_ | refine CC.region ?_ | refine CC.skip ?_ | refine CC.ret ?_ | refine CC.exit ?_ | refine CC.condTA ?_ | refine CC.condFA ?_ | refine CC.condDTA ?_ | refine CC.condDFA ?_ | refine CX.storeA ?_ | refine CX.skipA ?_)
      (have cc := crash_c d D picks b e hJ.wf (by omega); simp only [hcr] at cc; refine CX.callA cc ?_ (hpre := by exact fun y hy => rdx_mono hp3 (Pick.ok (show Pick (exact x) _ _ from by repeat (first | exact .head _ | apply Pick.tail | apply Upd.tail)) hy)); clear cc; rintro _ _ ⟨rfl, rfl⟩)
      repeat (first | refine CX.psA ?_ | refine CX.nil ?_ | refine CQ.thenN ?_ | refine CQ.thenR ?_ | refine CQ.thenX ?_ | refine CQ.blockN ?_ | refine CQ.blockR ?_ | refine CQ.blockX ?_ | refine CQ.blockYA ?_ | refine CC.seq ?_ | refine CC.block ?_ | refine CC.region ?_ | refine CC.skip ?_ | refine CC.ret ?_ | refine CC.exit ?_ | refine CC.condTA ?_ | refine CC.condFA ?_ | refine CC.condDTA ?_ | refine CC.condDFA ?_ | refine CX.storeA ?_ | refine CX.skipA ?_)
      (have cc := read_c d D2 (k : Int) hc1.wf (by omega); simp only [hr1] at cc; refine CX.callA cc ?_; clear cc; rintro _ _ ⟨rfl, rfl⟩)
      repeat (first | refine CX.psA ?_ | refine CX.nil ?_ | refine CQ.thenN ?_ | refine CQ.thenR ?_ | refine CQ.thenX ?_ | refine CQ.blockN ?_ | refine CQ.blockR ?_ | refine CQ.blockX ?_ | refine CQ.blockYA ?_ | refine CC.seq ?_ | refine CC.block ?_ | refine CC.region ?_ | refine CC.skip ?_ | refine CC.ret ?_ | refine CC.exit ?_ | refine CC.condTA ?_ | refine CC.condFA ?_ | refine CC.condDTA ?_ | refine CC.condDFA ?_ | refine CX.storeA ?_ | refine CX.skipA ?_)
      (refine CX.allocZ (cb zblk) ?_; intro r1)
      repeat (first | refine CX.psA ?_ | refine CX.nil ?_ | refine CQ.thenN ?_ | refine CQ.thenR ?_ | refine CQ.thenX ?_ | refine CQ.blockN ?_ | refine CQ.blockR ?_ | refine CQ.blockX ?_ | refine CQ.blockYA ?_ | refine CC.seq ?_ | refine CC.block ?_ | refine CC.region ?_ | refine CC.skip ?_ | refine CC.ret ?_ | refine CC.exit ?_ | refine CC.condTA ?_ | refine CC.condFA ?_ | refine CC.condDTA ?_ | refine CC.condDFA ?_ | refine CX.storeA ?_ | refine CX.skipA ?_)
      (apply CX.storeAll; (· rfl); (· rfl); (· rfl); (· repeat (first | exact .head _ | apply Pick.tail | apply Upd.tail)); (· exact hwb.len); (· exact WB_z.len); (· exact one_cb _))
      repeat (first | refine CX.psA ?_ | refine CX.nil ?_ | refine CQ.thenN ?_ | refine CQ.thenR ?_ | refine CQ.thenX ?_ | refine CQ.blockN ?_ | refine CQ.blockR ?_ | refine CQ.blockX ?_ | refine CQ.blockYA ?_ | refine CC.seq ?_ | refine CC.block ?_ | refine CC.region ?_ | refine CC.skip ?_ | refine CC.ret ?_ | refine CC.exit ?_ | refine CC.condTA ?_ | refine CC.condFA ?_ | refine CC.condDTA ?_ | refine CC.condDFA ?_ | refine CX.storeA ?_ | refine CX.skipA ?_)
      (have cc := sure_c d D2 (k : Int) hc1.wf; simp only [hr2] at cc; refine CX.callA cc ?_; clear cc; rintro _ _ ⟨rfl, rfl⟩)
      repeat (first | refine CX.psA ?_ | refine CX.nil ?_ | refine CQ.thenN ?_ | refine CQ.thenR ?_ | refine CQ.thenX ?_ | refine CQ.blockN ?_ | refine CQ.blockR ?_ | refine CQ.blockX ?_ | refine CQ.blockYA ?_ | refine CC.seq ?_ | refine CC.block ?_ | refine CC.region ?_ | refine CC.skip ?_ | refine CC.ret ?_ | refine CC.exit ?_ | refine CC.condTA ?_ | refine CC.condFA ?_ | refine CC.condDTA ?_ | refine CC.condDFA ?_ | refine CX.storeA ?_ | refine CX.skipA ?_)
      (refine CX.allocZ (cb zblk) ?_; intro r2)
      repeat (first | refine CX.psA ?_ | refine CX.nil ?_ | refine CQ.thenN ?_ | refine CQ.thenR ?_ | refine CQ.thenX ?_ | refine CQ.blockN ?_ | refine CQ.blockR ?_ | refine CQ.blockX ?_ | refine CQ.blockYA ?_ | refine CC.seq ?_ | refine CC.block ?_ | refine CC.region ?_ | refine CC.skip ?_ | refine CC.ret ?_ | refine CC.exit ?_ | refine CC.condTA ?_ | refine CC.condFA ?_ | refine CC.condDTA ?_ | refine CC.condDFA ?_ | refine CX.storeA ?_ | refine CX.skipA ?_)
      (apply CX.storeAll; (· rfl); (· rfl); (· rfl); (· repeat (first | exact .head _ | apply Pick.tail | apply Upd.tail)); (· exact hwb.len); (· exact WB_z.len); (· exact one_cb _))
      repeat (first | refine CX.psA ?_ | refine CX.nil ?_ | refine CQ.thenN ?_ | refine CQ.thenR ?_ | refine CQ.thenX ?_ | refine CQ.blockN ?_ | refine CQ.blockR ?_ | refine CQ.blockX ?_ | refine CQ.blockYA ?_ | refine CC.seq ?_ | refine CC.block ?_ | refine CC.region ?_ | refine CC.skip ?_ | refine CC.ret ?_ | refine CC.exit ?_ | refine CC.condTA ?_ | refine CC.condFA ?_ | refine CC.condDTA ?_ | refine CC.condDFA ?_ | refine CX.storeA ?_ | refine CX.skipA ?_)
      ((apply CX.ps; (· apply PS.loadG (vs := cb (was)); (· rfl); (· rfl); (· exact CellsAt.all (by repeat (first | exact .head _ | apply Pick.tail | apply Upd.tail))); (· exact hwb.len))))
      ((apply CX.ps; (· apply PS.loadG (vs := cb (was)); (· rfl); (· rfl); (· exact CellsAt.all (by repeat (first | exact .head _ | apply Pick.tail | apply Upd.tail))); (· exact hwb.len))))
      (apply CX.ps; (· refine PS.toT (PS.eqlB (a := was) (b := was) ?_ ?_ ?_ ?_ ?_) ?_; (· rfl); (· rfl); (· rfl); (· exact hwb); (· exact hwb); (· rfl)))
      repeat (first | refine CX.psA ?_ | refine CX.nil ?_ | refine CQ.thenN ?_ | refine CQ.thenR ?_ | refine CQ.thenX ?_ | refine CQ.blockN ?_ | refine CQ.blockR ?_ | refine CQ.blockX ?_ | refine CQ.blockYA ?_ | refine CC.seq ?_ | refine CC.block ?_ | refine CC.region ?_ | refine CC.skip ?_ | refine CC.ret ?_ | refine CC.exit ?_ | refine CC.condTA ?_ | refine CC.condFA ?_ | refine CC.condDTA ?_ | refine CC.condDFA ?_ | refine CX.storeA ?_ | refine CX.skipA ?_)
      ((apply CX.ps; (· apply PS.loadG (vs := cb (was)); (· rfl); (· rfl); (· exact CellsAt.all (by repeat (first | exact .head _ | apply Pick.tail | apply Upd.tail))); (· exact hwb.len))))
      ((apply CX.ps; (· apply PS.loadG (vs := cb (was)); (· rfl); (· rfl); (· exact CellsAt.all (by repeat (first | exact .head _ | apply Pick.tail | apply Upd.tail))); (· exact hwb.len))))
      (apply CX.ps; (· refine PS.toT (PS.eqlB (a := was) (b := was) ?_ ?_ ?_ ?_ ?_) ?_; (· rfl); (· rfl); (· rfl); (· exact hwb); (· exact hwb); (· rfl)))
      repeat (first | refine CX.psA ?_ | refine CX.nil ?_ | refine CQ.thenN ?_ | refine CQ.thenR ?_ | refine CQ.thenX ?_ | refine CQ.blockN ?_ | refine CQ.blockR ?_ | refine CQ.blockX ?_ | refine CQ.blockYA ?_ | refine CC.seq ?_ | refine CC.block ?_ | refine CC.region ?_ | refine CC.skip ?_ | refine CC.ret ?_ | refine CC.exit ?_ | refine CC.condTA ?_ | refine CC.condFA ?_ | refine CC.condDTA ?_ | refine CC.condDFA ?_ | refine CX.storeA ?_ | refine CX.skipA ?_)
      (have cc := loose_c d D2; simp only [hc2] at cc; refine CX.callA cc ?_; clear cc; rintro _ _ ⟨rfl, rfl⟩)
      repeat (first | refine CX.psA ?_ | refine CX.nil ?_ | refine CQ.thenN ?_ | refine CQ.thenR ?_ | refine CQ.thenX ?_ | refine CQ.blockN ?_ | refine CQ.blockR ?_ | refine CQ.blockX ?_ | refine CQ.blockYA ?_ | refine CC.seq ?_ | refine CC.block ?_ | refine CC.region ?_ | refine CC.skip ?_ | refine CC.ret ?_ | refine CC.exit ?_ | refine CC.condTA ?_ | refine CC.condFA ?_ | refine CC.condDTA ?_ | refine CC.condDFA ?_ | refine CX.storeA ?_ | refine CX.skipA ?_)
      refine CX.callA (lives4_c) ?_
      rintro _ _ ⟨rfl, rfl⟩
      repeat (first | refine CX.psA ?_ | refine CX.nil ?_ | refine CQ.thenN ?_ | refine CQ.thenR ?_ | refine CQ.thenX ?_ | refine CQ.blockN ?_ | refine CQ.blockR ?_ | refine CQ.blockX ?_ | refine CQ.blockYA ?_ | refine CC.seq ?_ | refine CC.block ?_ | refine CC.region ?_ | refine CC.skip ?_ | refine CC.ret ?_ | refine CC.exit ?_ | refine CC.condTA ?_ | refine CC.condFA ?_ | refine CC.condDTA ?_ | refine CC.condDFA ?_ | refine CX.storeA ?_ | refine CX.skipA ?_)
      ((apply CQ.end1; (· rfl); (· exact .tmp rfl)); (· exact ⟨rfl, rfl⟩); (· repeat (first | exact Sel.nil _ | (apply Sel.cons; (· repeat (first | exact .head _ | apply Pick.tail | apply Upd.tail))))))
    · repeat (first | refine CX.psA ?_ | refine CX.nil ?_ | refine CQ.thenN ?_ | refine CQ.thenR ?_ | refine CQ.thenX ?_ | refine CQ.blockN ?_ | refine CQ.blockR ?_ | refine CQ.blockX ?_ | refine CQ.blockYA ?_ | refine CC.seq ?_ | refine CC.block ?_ | refine CC.region ?_ | refine CC.skip ?_ | refine CC.ret ?_ | refine CC.exit ?_ | refine CC.condTA ?_ | refine CC.condFA ?_ | refine CC.condDTA ?_ | refine CC.condDFA ?_ | refine CX.storeA ?_ | refine CX.skipA ?_)
      (have cc := crash_c d D picks b e hJ.wf (by omega); simp only [hcr] at cc; refine CX.callA cc ?_ (hpre := by exact fun y hy => rdx_mono hp3 (Pick.ok (show Pick (exact x) _ _ from by repeat (first | exact .head _ | apply Pick.tail | apply Upd.tail)) hy)); clear cc; rintro _ _ ⟨rfl, rfl⟩)
      repeat (first | refine CX.psA ?_ | refine CX.nil ?_ | refine CQ.thenN ?_ | refine CQ.thenR ?_ | refine CQ.thenX ?_ | refine CQ.blockN ?_ | refine CQ.blockR ?_ | refine CQ.blockX ?_ | refine CQ.blockYA ?_ | refine CC.seq ?_ | refine CC.block ?_ | refine CC.region ?_ | refine CC.skip ?_ | refine CC.ret ?_ | refine CC.exit ?_ | refine CC.condTA ?_ | refine CC.condFA ?_ | refine CC.condDTA ?_ | refine CC.condDFA ?_ | refine CX.storeA ?_ | refine CX.skipA ?_)
      (have cc := read_c d D2 (k : Int) hc1.wf (by omega); simp only [hr1] at cc; refine CX.callA cc ?_; clear cc; rintro _ _ ⟨rfl, rfl⟩)
      repeat (first | refine CX.psA ?_ | refine CX.nil ?_ | refine CQ.thenN ?_ | refine CQ.thenR ?_ | refine CQ.thenX ?_ | refine CQ.blockN ?_ | refine CQ.blockR ?_ | refine CQ.blockX ?_ | refine CQ.blockYA ?_ | refine CC.seq ?_ | refine CC.block ?_ | refine CC.region ?_ | refine CC.skip ?_ | refine CC.ret ?_ | refine CC.exit ?_ | refine CC.condTA ?_ | refine CC.condFA ?_ | refine CC.condDTA ?_ | refine CC.condDFA ?_ | refine CX.storeA ?_ | refine CX.skipA ?_)
      (refine CX.allocZ (cb zblk) ?_; intro r1)
      repeat (first | refine CX.psA ?_ | refine CX.nil ?_ | refine CQ.thenN ?_ | refine CQ.thenR ?_ | refine CQ.thenX ?_ | refine CQ.blockN ?_ | refine CQ.blockR ?_ | refine CQ.blockX ?_ | refine CQ.blockYA ?_ | refine CC.seq ?_ | refine CC.block ?_ | refine CC.region ?_ | refine CC.skip ?_ | refine CC.ret ?_ | refine CC.exit ?_ | refine CC.condTA ?_ | refine CC.condFA ?_ | refine CC.condDTA ?_ | refine CC.condDFA ?_ | refine CX.storeA ?_ | refine CX.skipA ?_)
      (apply CX.storeAll; (· rfl); (· rfl); (· rfl); (· repeat (first | exact .head _ | apply Pick.tail | apply Upd.tail)); (· exact hwb.len); (· exact WB_z.len); (· exact one_cb _))
      repeat (first | refine CX.psA ?_ | refine CX.nil ?_ | refine CQ.thenN ?_ | refine CQ.thenR ?_ | refine CQ.thenX ?_ | refine CQ.blockN ?_ | refine CQ.blockR ?_ | refine CQ.blockX ?_ | refine CQ.blockYA ?_ | refine CC.seq ?_ | refine CC.block ?_ | refine CC.region ?_ | refine CC.skip ?_ | refine CC.ret ?_ | refine CC.exit ?_ | refine CC.condTA ?_ | refine CC.condFA ?_ | refine CC.condDTA ?_ | refine CC.condDFA ?_ | refine CX.storeA ?_ | refine CX.skipA ?_)
      (have cc := sure_c d D2 (k : Int) hc1.wf; simp only [hr2] at cc; refine CX.callA cc ?_; clear cc; rintro _ _ ⟨rfl, rfl⟩)
      repeat (first | refine CX.psA ?_ | refine CX.nil ?_ | refine CQ.thenN ?_ | refine CQ.thenR ?_ | refine CQ.thenX ?_ | refine CQ.blockN ?_ | refine CQ.blockR ?_ | refine CQ.blockX ?_ | refine CQ.blockYA ?_ | refine CC.seq ?_ | refine CC.block ?_ | refine CC.region ?_ | refine CC.skip ?_ | refine CC.ret ?_ | refine CC.exit ?_ | refine CC.condTA ?_ | refine CC.condFA ?_ | refine CC.condDTA ?_ | refine CC.condDFA ?_ | refine CX.storeA ?_ | refine CX.skipA ?_)
      (refine CX.allocZ (cb zblk) ?_; intro r2)
      repeat (first | refine CX.psA ?_ | refine CX.nil ?_ | refine CQ.thenN ?_ | refine CQ.thenR ?_ | refine CQ.thenX ?_ | refine CQ.blockN ?_ | refine CQ.blockR ?_ | refine CQ.blockX ?_ | refine CQ.blockYA ?_ | refine CC.seq ?_ | refine CC.block ?_ | refine CC.region ?_ | refine CC.skip ?_ | refine CC.ret ?_ | refine CC.exit ?_ | refine CC.condTA ?_ | refine CC.condFA ?_ | refine CC.condDTA ?_ | refine CC.condDFA ?_ | refine CX.storeA ?_ | refine CX.skipA ?_)
      (apply CX.storeAll; (· rfl); (· rfl); (· rfl); (· repeat (first | exact .head _ | apply Pick.tail | apply Upd.tail)); (· exact hwb.len); (· exact WB_z.len); (· exact one_cb _))
      repeat (first | refine CX.psA ?_ | refine CX.nil ?_ | refine CQ.thenN ?_ | refine CQ.thenR ?_ | refine CQ.thenX ?_ | refine CQ.blockN ?_ | refine CQ.blockR ?_ | refine CQ.blockX ?_ | refine CQ.blockYA ?_ | refine CC.seq ?_ | refine CC.block ?_ | refine CC.region ?_ | refine CC.skip ?_ | refine CC.ret ?_ | refine CC.exit ?_ | refine CC.condTA ?_ | refine CC.condFA ?_ | refine CC.condDTA ?_ | refine CC.condDFA ?_ | refine CX.storeA ?_ | refine CX.skipA ?_)
      ((apply CX.ps; (· apply PS.loadG (vs := cb (was)); (· rfl); (· rfl); (· exact CellsAt.all (by repeat (first | exact .head _ | apply Pick.tail | apply Upd.tail))); (· exact hwb.len))))
      ((apply CX.ps; (· apply PS.loadG (vs := cb (was)); (· rfl); (· rfl); (· exact CellsAt.all (by repeat (first | exact .head _ | apply Pick.tail | apply Upd.tail))); (· exact hwb.len))))
      (apply CX.ps; (· refine PS.toT (PS.eqlB (a := was) (b := was) ?_ ?_ ?_ ?_ ?_) ?_; (· rfl); (· rfl); (· rfl); (· exact hwb); (· exact hwb); (· rfl)))
      repeat (first | refine CX.psA ?_ | refine CX.nil ?_ | refine CQ.thenN ?_ | refine CQ.thenR ?_ | refine CQ.thenX ?_ | refine CQ.blockN ?_ | refine CQ.blockR ?_ | refine CQ.blockX ?_ | refine CQ.blockYA ?_ | refine CC.seq ?_ | refine CC.block ?_ | refine CC.region ?_ | refine CC.skip ?_ | refine CC.ret ?_ | refine CC.exit ?_ | refine CC.condTA ?_ | refine CC.condFA ?_ | refine CC.condDTA ?_ | refine CC.condDFA ?_ | refine CX.storeA ?_ | refine CX.skipA ?_)
      ((apply CX.ps; (· apply PS.loadG (vs := cb (was)); (· rfl); (· rfl); (· exact CellsAt.all (by repeat (first | exact .head _ | apply Pick.tail | apply Upd.tail))); (· exact hwb.len))))
      ((apply CX.ps; (· apply PS.loadG (vs := cb (was)); (· rfl); (· rfl); (· exact CellsAt.all (by repeat (first | exact .head _ | apply Pick.tail | apply Upd.tail))); (· exact hwb.len))))
      (apply CX.ps; (· refine PS.toT (PS.eqlB (a := was) (b := was) ?_ ?_ ?_ ?_ ?_) ?_; (· rfl); (· rfl); (· rfl); (· exact hwb); (· exact hwb); (· rfl)))
      repeat (first | refine CX.psA ?_ | refine CX.nil ?_ | refine CQ.thenN ?_ | refine CQ.thenR ?_ | refine CQ.thenX ?_ | refine CQ.blockN ?_ | refine CQ.blockR ?_ | refine CQ.blockX ?_ | refine CQ.blockYA ?_ | refine CC.seq ?_ | refine CC.block ?_ | refine CC.region ?_ | refine CC.skip ?_ | refine CC.ret ?_ | refine CC.exit ?_ | refine CC.condTA ?_ | refine CC.condFA ?_ | refine CC.condDTA ?_ | refine CC.condDFA ?_ | refine CX.storeA ?_ | refine CX.skipA ?_)
      (have cc := loose_c d D2; simp only [hc2] at cc; refine CX.callA cc ?_; clear cc; rintro _ _ ⟨rfl, rfl⟩)
      repeat (first | refine CX.psA ?_ | refine CX.nil ?_ | refine CQ.thenN ?_ | refine CQ.thenR ?_ | refine CQ.thenX ?_ | refine CQ.blockN ?_ | refine CQ.blockR ?_ | refine CQ.blockX ?_ | refine CQ.blockYA ?_ | refine CC.seq ?_ | refine CC.block ?_ | refine CC.region ?_ | refine CC.skip ?_ | refine CC.ret ?_ | refine CC.exit ?_ | refine CC.condTA ?_ | refine CC.condFA ?_ | refine CC.condDTA ?_ | refine CC.condDFA ?_ | refine CX.storeA ?_ | refine CX.skipA ?_)
      refine CX.callA (lives4_c) ?_
      rintro _ _ ⟨rfl, rfl⟩
      repeat (first | refine CX.psA ?_ | refine CX.nil ?_ | refine CQ.thenN ?_ | refine CQ.thenR ?_ | refine CQ.thenX ?_ | refine CQ.blockN ?_ | refine CQ.blockR ?_ | refine CQ.blockX ?_ | refine CQ.blockYA ?_ | refine CC.seq ?_ | refine CC.block ?_ | refine CC.region ?_ | refine CC.skip ?_ | refine CC.ret ?_ | refine CC.exit ?_ | refine CC.condTA ?_ | refine CC.condFA ?_ | refine CC.condDTA ?_ | refine CC.condDFA ?_ | refine CX.storeA ?_ | refine CX.skipA ?_)
      ((apply CQ.end1; (· rfl); (· exact .tmp rfl)); (· exact ⟨rfl, rfl⟩); (· repeat (first | exact Sel.nil _ | (apply Sel.cons; (· repeat (first | exact .head _ | apply Pick.tail | apply Upd.tail))))))
end Go.Proofs.Ytlckhaodecdbbaa
