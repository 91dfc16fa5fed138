/- What the statement SealBegins does, step by step. -/
import Derived.Test.YtlckhaodecdbbaaLv5
import Derived.Test.YtlckhaodecdbbaaTn
import Derived.Test.YtlckhaodecdbbaaL5k
import Derived.Test.YtlckhaodecdbbaaRb
set_option linter.unusedVariables false
set_option linter.unusedSimpArgs false
namespace Go.Cx
theorem swB_len {w : Nat × Blk} (h : w.2.length ≤ 108) : WB (swB w) := sealB_WB h
theorem ws_WB {lo : Nat} {ws : List (Nat × Blk)} {b : Blk} (h : Begun lo ws b) : ∀ c ∈ ws.map swB, WB c := fun c hc => by
  obtain ⟨w, hw, rfl⟩ := List.mem_map.1 hc
  exact swB_len (h.num w hw).2.2
theorem begun_iff {lo : Nat} {ws : List (Nat × Blk)} {b : Blk} (h : Begun lo ws b) : (getM b).2.2 = 0 ↔ b ∈ ws.map swB := by
  constructor
  · intro e; exact begun_valid h (get_valid e)
  · intro e; rw [get_ok (valid_of_mem h e)]
theorem mem_take_succ {l : List Blk} {k : Nat} (hk : k < l.length) (b : Blk) : b ∈ l.take (k + 1) ↔ b ∈ l.take k ∨ b = l[k] := by
  rw [List.take_succ_eq_append_getElem hk, List.mem_append]; simp
theorem flat_at {S : List Blk} (h : ∀ b ∈ S, WB b) {k : Nat} (hk : k < S.length) : ((flat S).drop (k * 128)).take 128 = cb S[k] := by
  have := rows_get cb 128 S (fun x hx => by rw [length_cb]; exact h x hx) k hk 0 128 (by omega)
  rw [Nat.add_zero] at this
  rw [flat, this, List.drop_zero, List.take_of_length_le]
  have := h S[k] (by simp)
  rw [length_cb, this]; exact Nat.le_refl _
theorem boE {b c : Bool} (h : b = c) : some (Value.bool b) = some (Value.bool c) := by rw [h]
end Go.Cx
namespace Go.Proofs.Ytlckhaodecdbbaa
open Go.Cx
attribute [local irreducible] Go.Cx.CX Go.Cx.CC Go.Cx.CQ Go.Cx.PS Go.Cx.Ctr Go.Cx.CH
set_option maxRecDepth 10000
theorem begins5_c (n : Nat) (hn : n ≤ top) (l : List SlB) (W : World) (hl : ∀ s ∈ l, SlB.ok W.ph s ∧ s.cells.length = 1) (a : Option Addr) (cl : Nat) (q : List Int) (aq : Option Addr) (cq : Nat) :
    Ctr Try.prog 7 [.int .u64 (n : Int), .slice a l.length cl, .slice aq q.length cq] [] (fun x => rdx a (l.length * 1) (rows SlB.cells l) x ∧ rdx aq (q.length * 1) (rows (fun z : Int => [Value.int .i64 z]) q) x ∧ Le W.ph x) (fun v M => v = .bool true ∧ M = []) := by
  generalize hf : n % 1152921504606846976 = first
  have hf1 : first < 1152921504606846976 := by omega
  have hlen : ∀ s ∈ l, s.cells.length = 1 := fun s hs => (hl s hs).2
  refine Ctr.intro Try.func7 rfl Try.ntmps7 rfl fun x w hp => ?_
  obtain ⟨hp1, hp2, hp3⟩ := hp
  rw [Nat.mul_one] at hp1 hp2
  rw [rows_ints] at hp2
  repeat (first | refine CX.psA ?_ | refine CX.nil ?_ | refine CQ.thenN ?_ | refine CQ.thenR ?_ | refine CQ.thenX ?_ | refine CQ.blockN ?_ | refine CQ.blockR ?_ | refine CQ.blockX ?_ | refine CQ.blockYA ?_ | refine CC.seq ?_ | refine CC.block ?_ | refine CC.region ?_ | refine CC.skip ?_ | refine CC.ret ?_ | refine CC.exit ?_ | refine CC.condTA ?_ | refine CC.condFA ?_ | refine CC.condDTA ?_ | refine CC.condDFA ?_ | refine CX.storeA ?_ | refine CX.skipA ?_)
  (refine CX.allocZ (cb zblk) ?_; intro r)
  repeat (first | refine CX.psA ?_ | refine CX.nil ?_ | refine CQ.thenN ?_ | refine CQ.thenR ?_ | refine CQ.thenX ?_ | refine CQ.blockN ?_ | refine CQ.blockR ?_ | refine CQ.blockX ?_ | refine CQ.blockYA ?_ | refine CC.seq ?_ | refine CC.block ?_ | refine CC.region ?_ | refine CC.skip ?_ | refine CC.ret ?_ | refine CC.exit ?_ | refine CC.condTA ?_ | refine CC.condFA ?_ | refine CC.condDTA ?_ | refine CC.condDFA ?_ | refine CX.storeA ?_ | refine CX.skipA ?_)
  refine CX.ps (PS.remN (k := .u64) n 1152921504606846976 (by decide) rfl rfl rfl) ?_
  rw [hf]
  repeat (first | refine CX.psA ?_ | refine CX.nil ?_ | refine CQ.thenN ?_ | refine CQ.thenR ?_ | refine CQ.thenX ?_ | refine CQ.blockN ?_ | refine CQ.blockR ?_ | refine CQ.blockX ?_ | refine CQ.blockYA ?_ | refine CC.seq ?_ | refine CC.block ?_ | refine CC.region ?_ | refine CC.skip ?_ | refine CC.ret ?_ | refine CC.exit ?_ | refine CC.condTA ?_ | refine CC.condFA ?_ | refine CC.condDTA ?_ | refine CC.condDFA ?_ | refine CX.storeA ?_ | refine CX.skipA ?_)
  refine CC.ownNil 29 128 ?_
  refine CC.loop (X := Nat × List (Nat × Blk) × Blk × Option Addr × Nat) (fun s => [(9, .int .i64 (s.1 : Int)), (8, .slice s.2.2.2.1 s.2.1.length s.2.2.2.2), (7, .pointer (some ⟨r, 0, none⟩)), (0, .int .u64 (first : Int)), (1, .slice a l.length cl), (2, .slice aq q.length cq)])
    (fun s => [bk r 29 (cb s.2.2.1), own 29 128 s.2.2.2.1 s.2.1.length s.2.2.2.2 (flat (s.2.1.map swB)), exact x]) (fun s => s.1 ≤ 12 ∧ Begun first s.2.1 s.2.2.1 ∧ (∀ w ∈ s.2.1, w.1 ≤ first + s.1) ∧ s.2.1.length ≤ s.1) (fun s => 12 - s.1)
    (0, [], zblk, none, 0) ⟨by simp, begun_nil (by omega), by simp, by simp⟩ ⟨rfl, rfl, rfl, rfl, rfl, rfl, trivial⟩ (by repeat (first | exact Sel.nil _ | (apply Sel.cons; (· repeat (first | exact .head _ | apply Pick.tail | apply Upd.tail))))) ?_
  rintro ⟨i, ws, b, wa, wc⟩ ⟨hi, hB, hw, hk⟩
  dsimp only at hi hB hw hk ⊢
  have hwb := hB.wb
  by_cases hlt : i < l.length ∧ i < 12
  · obtain ⟨h1, h2⟩ := hlt
    obtain ⟨ok, _⟩ := hl l[i] (by simp)
    have hrd := rdx_mono ok.r hp3
    have hmx := ok.max
    have hle := ok.le
    simp only [maxLen] at hmx
    obtain ⟨g, off, rfl⟩ := rdx_some hp1 (by omega)
    have hi64 : (i : Int) < 12 := by omega
    repeat (first | refine CX.psA ?_ | refine CX.nil ?_ | refine CQ.thenN ?_ | refine CQ.thenR ?_ | refine CQ.thenX ?_ | refine CQ.blockN ?_ | refine CQ.blockR ?_ | refine CQ.blockX ?_ | refine CQ.blockYA ?_ | refine CC.seq ?_ | refine CC.block ?_ | refine CC.region ?_ | refine CC.skip ?_ | refine CC.ret ?_ | refine CC.exit ?_ | refine CC.condTA ?_ | refine CC.condFA ?_ | refine CC.condDTA ?_ | refine CC.condDFA ?_ | refine CX.storeA ?_ | refine CX.skipA ?_)
    (refine CX.indexA (i) ?_ ?_; (· exact h1))
    refine CX.loadA _ (CellAt.row1 (by repeat (first | exact .head _ | apply Pick.tail | apply Upd.tail)) hp1 (by omega) hlen h1 rfl) ?_
    by_cases h108 : 108 < l[i].b.length
    · have e : putM (first + i + 1) l[i].b = (zblk, 3) := by unfold putM; rw [if_neg (by omega), if_pos h108]
      (have cc := sput_c (first + i + 1) (by simp only [top]; omega) l[i].b (by omega) l[i].a l[i].c; simp only [e] at cc; refine CX.callA cc ?_ (hpre := by exact rdx_ex (by repeat (first | exact .head _ | apply Pick.tail | apply Upd.tail)) hrd); clear cc; rintro _ _ ⟨rfl, rfl⟩)
      repeat (first | refine CX.psA ?_ | refine CX.nil ?_ | refine CQ.thenN ?_ | refine CQ.thenR ?_ | refine CQ.thenX ?_ | refine CQ.blockN ?_ | refine CQ.blockR ?_ | refine CQ.blockX ?_ | refine CQ.blockYA ?_ | refine CC.seq ?_ | refine CC.block ?_ | refine CC.region ?_ | refine CC.skip ?_ | refine CC.ret ?_ | refine CC.exit ?_ | refine CC.condTA ?_ | refine CC.condFA ?_ | refine CC.condDTA ?_ | refine CC.condDFA ?_ | refine CX.storeA ?_ | refine CX.skipA ?_)
      (refine CX.allocZ (cb zblk) ?_; intro s)
      repeat (first | refine CX.psA ?_ | refine CX.nil ?_ | refine CQ.thenN ?_ | refine CQ.thenR ?_ | refine CQ.thenX ?_ | refine CQ.blockN ?_ | refine CQ.blockR ?_ | refine CQ.blockX ?_ | refine CQ.blockYA ?_ | refine CC.seq ?_ | refine CC.block ?_ | refine CC.region ?_ | refine CC.skip ?_ | refine CC.ret ?_ | refine CC.exit ?_ | refine CC.condTA ?_ | refine CC.condFA ?_ | refine CC.condDTA ?_ | refine CC.condDFA ?_ | refine CX.storeA ?_ | refine CX.skipA ?_)
      (apply CX.storeAll; (· rfl); (· rfl); (· rfl); (· repeat (first | exact .head _ | apply Pick.tail | apply Upd.tail)); (· exact WB_z.len); (· exact WB_z.len); (· exact one_cb _))
      repeat (first | refine CX.psA ?_ | refine CX.nil ?_ | refine CQ.thenN ?_ | refine CQ.thenR ?_ | refine CQ.thenX ?_ | refine CQ.blockN ?_ | refine CQ.blockR ?_ | refine CQ.blockX ?_ | refine CQ.blockYA ?_ | refine CC.seq ?_ | refine CC.block ?_ | refine CC.region ?_ | refine CC.skip ?_ | refine CC.ret ?_ | refine CC.exit ?_ | refine CC.condTA ?_ | refine CC.condFA ?_ | refine CC.condDTA ?_ | refine CC.condDFA ?_ | refine CX.storeA ?_ | refine CX.skipA ?_)
      (refine CX.indexA (i) ?_ ?_; (· exact h1))
      refine CX.loadA _ (CellAt.row1 (by repeat (first | exact .head _ | apply Pick.tail | apply Upd.tail)) hp1 (by omega) hlen h1 rfl) ?_
      repeat (first | refine CX.psA ?_ | refine CX.nil ?_ | refine CQ.thenN ?_ | refine CQ.thenR ?_ | refine CQ.thenX ?_ | refine CQ.blockN ?_ | refine CQ.blockR ?_ | refine CQ.blockX ?_ | refine CQ.blockYA ?_ | refine CC.seq ?_ | refine CC.block ?_ | refine CC.region ?_ | refine CC.skip ?_ | refine CC.ret ?_ | refine CC.exit ?_ | refine CC.condTA ?_ | refine CC.condFA ?_ | refine CC.condDTA ?_ | refine CC.condDFA ?_ | refine CX.storeA ?_ | refine CX.skipA ?_)
      (refine CX.ps (PS.neqBool false ?_ Try.underlying4 rfl rfl rfl) ?_; (· rfl))
      repeat (first | refine CX.psA ?_ | refine CX.nil ?_ | refine CQ.thenN ?_ | refine CQ.thenR ?_ | refine CQ.thenX ?_ | refine CQ.blockN ?_ | refine CQ.blockR ?_ | refine CQ.blockX ?_ | refine CQ.blockYA ?_ | refine CC.seq ?_ | refine CC.block ?_ | refine CC.region ?_ | refine CC.skip ?_ | refine CC.ret ?_ | refine CC.exit ?_ | refine CC.condTA ?_ | refine CC.condFA ?_ | refine CC.condDTA ?_ | refine CC.condDFA ?_ | refine CX.storeA ?_ | refine CX.skipA ?_)
      exact CQ.round (x := (i, ws, b, wa, wc)) (i + 1, ws, b, wa, wc) ⟨by dsimp only; omega, hB, fun w h => by have := hw w h; dsimp only; omega, by dsimp only; omega⟩ (by dsimp only; omega) ⟨eqI (by dsimp only; omega), rfl, rfl, rfl, rfl, rfl, trivial⟩ (by repeat (first | exact Sel.nil _ | (apply Sel.cons; (· repeat (first | exact .head _ | apply Pick.tail | apply Upd.tail)))))
    · have hl8 : l[i].b.length ≤ 108 := by omega
      have e : putM (first + i + 1) l[i].b = (swB (first + i + 1, l[i].b), 0) := putM_ok (by omega) hl8
      have wB : WB (swB (first + i + 1, l[i].b)) := swB_len hl8
      have hT := fun z => begun_torn hB (first + i + 1, l[i].b) ⟨by dsimp only; omega, by dsimp only; omega, hl8⟩ (fun u hu => by have := hw u hu; dsimp only; omega) z
      have hmap : (ws ++ [(first + i + 1, l[i].b)]).map swB = ws.map swB ++ [swB (first + i + 1, l[i].b)] := by simp
      have hfl : flat (ws.map swB) ++ cb (swB (first + i + 1, l[i].b)) = flat ((ws ++ [(first + i + 1, l[i].b)]).map swB) := by rw [hmap]; simp [flat, rows]
      (have cc := sput_c (first + i + 1) (by simp only [top]; omega) l[i].b (by omega) l[i].a l[i].c; simp only [e] at cc; refine CX.callA cc ?_ (hpre := by exact rdx_ex (by repeat (first | exact .head _ | apply Pick.tail | apply Upd.tail)) hrd); clear cc; rintro _ _ ⟨rfl, rfl⟩)
      repeat (first | refine CX.psA ?_ | refine CX.nil ?_ | refine CQ.thenN ?_ | refine CQ.thenR ?_ | refine CQ.thenX ?_ | refine CQ.blockN ?_ | refine CQ.blockR ?_ | refine CQ.blockX ?_ | refine CQ.blockYA ?_ | refine CC.seq ?_ | refine CC.block ?_ | refine CC.region ?_ | refine CC.skip ?_ | refine CC.ret ?_ | refine CC.exit ?_ | refine CC.condTA ?_ | refine CC.condFA ?_ | refine CC.condDTA ?_ | refine CC.condDFA ?_ | refine CX.storeA ?_ | refine CX.skipA ?_)
      (refine CX.allocZ (cb zblk) ?_; intro s)
      repeat (first | refine CX.psA ?_ | refine CX.nil ?_ | refine CQ.thenN ?_ | refine CQ.thenR ?_ | refine CQ.thenX ?_ | refine CQ.blockN ?_ | refine CQ.blockR ?_ | refine CQ.blockX ?_ | refine CQ.blockYA ?_ | refine CC.seq ?_ | refine CC.block ?_ | refine CC.region ?_ | refine CC.skip ?_ | refine CC.ret ?_ | refine CC.exit ?_ | refine CC.condTA ?_ | refine CC.condFA ?_ | refine CC.condDTA ?_ | refine CC.condDFA ?_ | refine CX.storeA ?_ | refine CX.skipA ?_)
      (apply CX.storeAll; (· rfl); (· rfl); (· rfl); (· repeat (first | exact .head _ | apply Pick.tail | apply Upd.tail)); (· exact wB.len); (· exact WB_z.len); (· exact one_cb _))
      repeat (first | refine CX.psA ?_ | refine CX.nil ?_ | refine CQ.thenN ?_ | refine CQ.thenR ?_ | refine CQ.thenX ?_ | refine CQ.blockN ?_ | refine CQ.blockR ?_ | refine CQ.blockX ?_ | refine CQ.blockYA ?_ | refine CC.seq ?_ | refine CC.block ?_ | refine CC.region ?_ | refine CC.skip ?_ | refine CC.ret ?_ | refine CC.exit ?_ | refine CC.condTA ?_ | refine CC.condFA ?_ | refine CC.condDTA ?_ | refine CC.condDFA ?_ | refine CX.storeA ?_ | refine CX.skipA ?_)
      (refine CX.indexA (i) ?_ ?_; (· exact h1))
      refine CX.loadA _ (CellAt.row1 (by repeat (first | exact .head _ | apply Pick.tail | apply Upd.tail)) hp1 (by omega) hlen h1 rfl) ?_
      repeat (first | refine CX.psA ?_ | refine CX.nil ?_ | refine CQ.thenN ?_ | refine CQ.thenR ?_ | refine CQ.thenX ?_ | refine CQ.blockN ?_ | refine CQ.blockR ?_ | refine CQ.blockX ?_ | refine CQ.blockYA ?_ | refine CC.seq ?_ | refine CC.block ?_ | refine CC.region ?_ | refine CC.skip ?_ | refine CC.ret ?_ | refine CC.exit ?_ | refine CC.condTA ?_ | refine CC.condFA ?_ | refine CC.condDTA ?_ | refine CC.condDFA ?_ | refine CX.storeA ?_ | refine CX.skipA ?_)
      (refine CX.ps (PS.neqBool false ?_ Try.underlying4 rfl rfl rfl) ?_; (· rfl))
      repeat (first | refine CX.psA ?_ | refine CX.nil ?_ | refine CQ.thenN ?_ | refine CQ.thenR ?_ | refine CQ.thenX ?_ | refine CQ.blockN ?_ | refine CQ.blockR ?_ | refine CQ.blockX ?_ | refine CQ.blockYA ?_ | refine CC.seq ?_ | refine CC.block ?_ | refine CC.region ?_ | refine CC.skip ?_ | refine CC.ret ?_ | refine CC.exit ?_ | refine CC.condTA ?_ | refine CC.condFA ?_ | refine CC.condDTA ?_ | refine CC.condDFA ?_ | refine CX.storeA ?_ | refine CX.skipA ?_)
      ((apply CX.ps; (· apply PS.loadG (vs := cb (swB (first + i + 1, l[i].b))); (· rfl); (· rfl); (· exact CellsAt.all (by repeat (first | exact .head _ | apply Pick.tail | apply Upd.tail))); (· exact wB.len))))
      apply CX.buildSl (vs := [(0, .agg (cb (swB (first + i + 1, l[i].b))).toArray)]) (out := cb (swB (first + i + 1, l[i].b)))
      · rfl
      · rfl
      · decide
      · exact fill_one wB.len (by simp)
      intro bq
      apply CX.append (m := 1) (news := cb (swB (first + i + 1, l[i].b)))
      · rfl
      · rfl
      · rfl
      · repeat (first | exact .head _ | apply Pick.tail | apply Upd.tail)
      · exact RdS.pick (by repeat (first | exact .head _ | apply Pick.tail | apply Upd.tail)) wB.len (one_cb _) (by rw [List.drop_zero, List.take_of_length_le (by rw [wB.len]; omega)])
      · omega
      · intro hh; cases hh
      intro wa' wc'
      rw [hfl]
      repeat (first | refine CX.psA ?_ | refine CX.nil ?_ | refine CQ.thenN ?_ | refine CQ.thenR ?_ | refine CQ.thenX ?_ | refine CQ.blockN ?_ | refine CQ.blockR ?_ | refine CQ.blockX ?_ | refine CQ.blockYA ?_ | refine CC.seq ?_ | refine CC.block ?_ | refine CC.region ?_ | refine CC.skip ?_ | refine CC.ret ?_ | refine CC.exit ?_ | refine CC.condTA ?_ | refine CC.condFA ?_ | refine CC.condDTA ?_ | refine CC.condDFA ?_ | refine CX.storeA ?_ | refine CX.skipA ?_)
      generalize swB (first + i + 1, l[i].b) = B at *
      generalize hws : ws ++ [(first + i + 1, l[i].b)] = ws' at *
      have hlw : ws.length + 1 = ws'.length := by rw [← hws]; simp
      have hw' : ∀ w ∈ ws', w.1 ≤ first + (i + 1) := fun w h => by
        rw [← hws] at h
        rcases List.mem_append.1 h with h | h
        · have := hw w h; omega
        · obtain rfl : w = (first + i + 1, l[i].b) := by simpa using h
          dsimp only; omega
      rw [hlw]
      refine CC.join (X := Int) (fun z => [(12, .int .i64 z), (9, .int .i64 (i : Int)), (8, .slice wa' ws'.length wc'), (7, .pointer (some ⟨r, 0, none⟩)), (10, .pointer (some ⟨s, 0, none⟩)), (0, .int .u64 (first : Int)), (1, .slice (some ⟨g, off, none⟩) l.length cl), (2, .slice aq q.length cq)])
        (fun z => [bk r 29 (cb b), bk s 29 (cb B), own 29 128 wa' ws'.length wc' (flat (ws'.map swB)), exact x]) (fun _ => True) ?_ ?_
      · by_cases hc : i < q.length
        · obtain ⟨g2, off2, rfl⟩ := rdx_some hp2 (by omega)
          repeat (first | refine CX.psA ?_ | refine CX.nil ?_ | refine CQ.thenN ?_ | refine CQ.thenR ?_ | refine CQ.thenX ?_ | refine CQ.blockN ?_ | refine CQ.blockR ?_ | refine CQ.blockX ?_ | refine CQ.blockYA ?_ | refine CC.seq ?_ | refine CC.block ?_ | refine CC.region ?_ | refine CC.skip ?_ | refine CC.ret ?_ | refine CC.exit ?_ | refine CC.condTA ?_ | refine CC.condFA ?_ | refine CC.condDTA ?_ | refine CC.condDFA ?_ | refine CX.storeA ?_ | refine CX.skipA ?_)
          (refine CX.indexA (i) ?_ ?_; (· exact hc))
          refine CX.loadA _ (CellAt.ints (by repeat (first | exact .head _ | apply Pick.tail | apply Upd.tail)) hp2 hc (by omega)) ?_
          repeat (first | refine CX.psA ?_ | refine CX.nil ?_ | refine CQ.thenN ?_ | refine CQ.thenR ?_ | refine CQ.thenX ?_ | refine CQ.blockN ?_ | refine CQ.blockR ?_ | refine CQ.blockX ?_ | refine CQ.blockYA ?_ | refine CC.seq ?_ | refine CC.block ?_ | refine CC.region ?_ | refine CC.skip ?_ | refine CC.ret ?_ | refine CC.exit ?_ | refine CC.condTA ?_ | refine CC.condFA ?_ | refine CC.condDTA ?_ | refine CC.condDFA ?_ | refine CX.storeA ?_ | refine CX.skipA ?_)
          exact CQ.joined q[i] trivial ⟨rfl, rfl, rfl, rfl, rfl, rfl, rfl, rfl, trivial⟩ (by repeat (first | exact Sel.nil _ | (apply Sel.cons; (· repeat (first | exact .head _ | apply Pick.tail | apply Upd.tail)))))
        · repeat (first | refine CX.psA ?_ | refine CX.nil ?_ | refine CQ.thenN ?_ | refine CQ.thenR ?_ | refine CQ.thenX ?_ | refine CQ.blockN ?_ | refine CQ.blockR ?_ | refine CQ.blockX ?_ | refine CQ.blockYA ?_ | refine CC.seq ?_ | refine CC.block ?_ | refine CC.region ?_ | refine CC.skip ?_ | refine CC.ret ?_ | refine CC.exit ?_ | refine CC.condTA ?_ | refine CC.condFA ?_ | refine CC.condDTA ?_ | refine CC.condDFA ?_ | refine CX.storeA ?_ | refine CX.skipA ?_)
          exact CQ.joined 128 trivial ⟨rfl, rfl, rfl, rfl, rfl, rfl, rfl, rfl, trivial⟩ (by repeat (first | exact Sel.nil _ | (apply Sel.cons; (· repeat (first | exact .head _ | apply Pick.tail | apply Upd.tail)))))
      · rintro z -
        have hT := hT (min (max z 0) 128).toNat
        have hTw := hT.wb
        have hTi := begun_iff hT
        have hTa := ws_WB hT
        repeat (first | refine CX.psA ?_ | refine CX.nil ?_ | refine CQ.thenN ?_ | refine CQ.thenR ?_ | refine CQ.thenX ?_ | refine CQ.blockN ?_ | refine CQ.blockR ?_ | refine CQ.blockX ?_ | refine CQ.blockYA ?_ | refine CC.seq ?_ | refine CC.block ?_ | refine CC.region ?_ | refine CC.skip ?_ | refine CC.ret ?_ | refine CC.exit ?_ | refine CC.condTA ?_ | refine CC.condFA ?_ | refine CC.condDTA ?_ | refine CC.condDFA ?_ | refine CX.storeA ?_ | refine CX.skipA ?_)
        ((apply CX.ps; (· apply PS.loadG (vs := cb (b)); (· rfl); (· rfl); (· exact CellsAt.all (by repeat (first | exact .head _ | apply Pick.tail | apply Upd.tail))); (· exact hwb.len))))
        ((apply CX.ps; (· apply PS.loadG (vs := cb (B)); (· rfl); (· rfl); (· exact CellsAt.all (by repeat (first | exact .head _ | apply Pick.tail | apply Upd.tail))); (· exact wB.len))))
        repeat (first | refine CX.psA ?_ | refine CX.nil ?_ | refine CQ.thenN ?_ | refine CQ.thenR ?_ | refine CQ.thenX ?_ | refine CQ.blockN ?_ | refine CQ.blockR ?_ | refine CQ.blockX ?_ | refine CQ.blockYA ?_ | refine CC.seq ?_ | refine CC.block ?_ | refine CC.region ?_ | refine CC.skip ?_ | refine CC.ret ?_ | refine CC.exit ?_ | refine CC.condTA ?_ | refine CC.condFA ?_ | refine CC.condDTA ?_ | refine CC.condDFA ?_ | refine CX.storeA ?_ | refine CX.skipA ?_)
        refine CX.callA (torn_c b B hwb wB z) ?_
        rintro _ _ ⟨rfl, rfl⟩
        generalize torn b B (min (max z 0) 128).toNat = T at *
        repeat (first | refine CX.psA ?_ | refine CX.nil ?_ | refine CQ.thenN ?_ | refine CQ.thenR ?_ | refine CQ.thenX ?_ | refine CQ.blockN ?_ | refine CQ.blockR ?_ | refine CQ.blockX ?_ | refine CQ.blockYA ?_ | refine CC.seq ?_ | refine CC.block ?_ | refine CC.region ?_ | refine CC.skip ?_ | refine CC.ret ?_ | refine CC.exit ?_ | refine CC.condTA ?_ | refine CC.condFA ?_ | refine CC.condDTA ?_ | refine CC.condDFA ?_ | refine CX.storeA ?_ | refine CX.skipA ?_)
        (apply CX.storeAll; (· rfl); (· rfl); (· rfl); (· repeat (first | exact .head _ | apply Pick.tail | apply Upd.tail)); (· exact hTw.len); (· exact hwb.len); (· exact one_cb _))
        repeat (first | refine CX.psA ?_ | refine CX.nil ?_ | refine CQ.thenN ?_ | refine CQ.thenR ?_ | refine CQ.thenX ?_ | refine CQ.blockN ?_ | refine CQ.blockR ?_ | refine CQ.blockX ?_ | refine CQ.blockYA ?_ | refine CC.seq ?_ | refine CC.block ?_ | refine CC.region ?_ | refine CC.skip ?_ | refine CC.ret ?_ | refine CC.exit ?_ | refine CC.condTA ?_ | refine CC.condFA ?_ | refine CC.condDTA ?_ | refine CC.condDFA ?_ | refine CX.storeA ?_ | refine CX.skipA ?_)
        ((apply CX.ps; (· apply PS.loadG (vs := cb (T)); (· rfl); (· rfl); (· exact CellsAt.all (by repeat (first | exact .head _ | apply Pick.tail | apply Upd.tail))); (· exact hTw.len))))
        refine CX.callA (sget_c T hTw) ?_
        rintro _ _ ⟨ga, gc, rfl, rfl⟩
        generalize (getM T).2.2 = er at *
        repeat (first | refine CX.psA ?_ | refine CX.nil ?_ | refine CQ.thenN ?_ | refine CQ.thenR ?_ | refine CQ.thenX ?_ | refine CQ.blockN ?_ | refine CQ.blockR ?_ | refine CQ.blockX ?_ | refine CQ.blockYA ?_ | refine CC.seq ?_ | refine CC.block ?_ | refine CC.region ?_ | refine CC.skip ?_ | refine CC.ret ?_ | refine CC.exit ?_ | refine CC.condTA ?_ | refine CC.condFA ?_ | refine CC.condDTA ?_ | refine CC.condDFA ?_ | refine CX.storeA ?_ | refine CX.skipA ?_)
        have hlm : (ws'.map swB).length = ws'.length := by simp
        refine CC.loop (X := Nat) (fun k => [(17, .int .i64 (k : Int)), (16, .bool (decide (T ∈ (ws'.map swB).take k))), (15, .int .i64 er), (9, .int .i64 (i : Int)), (8, .slice wa' ws'.length wc'), (7, .pointer (some ⟨r, 0, none⟩)), (0, .int .u64 (first : Int)), (1, .slice (some ⟨g, off, none⟩) l.length cl), (2, .slice aq q.length cq)])
          (fun k => [bk r 29 (cb T), own 29 128 wa' ws'.length wc' (flat (ws'.map swB)), exact x]) (fun k => k ≤ ws'.length) (fun k => ws'.length - k) 0 (Nat.zero_le _) ⟨rfl, boE (by simp), rfl, rfl, rfl, rfl, rfl, rfl, rfl, trivial⟩ (by repeat (first | exact Sel.nil _ | (apply Sel.cons; (· repeat (first | exact .head _ | apply Pick.tail | apply Upd.tail))))) ?_
        intro k hk
        by_cases h5 : k < ws'.length
        · refine CC.fact (own_fact (e := 29) (by repeat (first | exact .head _ | apply Pick.tail | apply Upd.tail)) (by omega)) ?_
          rintro ⟨hcc, g2, rfl⟩
          have h5' : k < (ws'.map swB).length := by omega
          have hmt := mem_take_succ h5' T
          have wk : WB (ws'.map swB)[k] := hTa _ (List.getElem_mem h5')
          have fk := flat_at hTa h5'
          by_cases h6 : T ∈ (ws'.map swB).take k
          · rw [decide_eq_true h6]
            repeat (first | refine CX.psA ?_ | refine CX.nil ?_ | refine CQ.thenN ?_ | refine CQ.thenR ?_ | refine CQ.thenX ?_ | refine CQ.blockN ?_ | refine CQ.blockR ?_ | refine CQ.blockX ?_ | refine CQ.blockYA ?_ | refine CC.seq ?_ | refine CC.block ?_ | refine CC.region ?_ | refine CC.skip ?_ | refine CC.ret ?_ | refine CC.exit ?_ | refine CC.condTA ?_ | refine CC.condFA ?_ | refine CC.condDTA ?_ | refine CC.condDFA ?_ | refine CX.storeA ?_ | refine CX.skipA ?_)
            refine CC.draw [(0, 0), (1, 0), (2, 1), (3, 0), (4, 0), (5, 0), (6, 1), (7, 0), (8, 0), (9, 0)] mixed rfl (by kernel_rfl) (by kernel_rfl) [bk r 29 (cb T), own 29 128 (some ⟨g2, 0, none⟩) ws'.length wc' (flat (ws'.map swB))] ?_
            repeat (first | refine CH.pureA ?_ | refine CH.readA ?_ | refine CH.skA ?_ | refine CH.skCA ?_ | refine CH.nil ?_)
            repeat (first | refine CX.psA ?_ | refine CX.nil ?_ | refine CQ.thenN ?_ | refine CQ.thenR ?_ | refine CQ.thenX ?_ | refine CQ.blockN ?_ | refine CQ.blockR ?_ | refine CQ.blockX ?_ | refine CQ.blockYA ?_ | refine CC.seq ?_ | refine CC.block ?_ | refine CC.region ?_ | refine CC.skip ?_ | refine CC.ret ?_ | refine CC.exit ?_ | refine CC.condTA ?_ | refine CC.condFA ?_ | refine CC.condDTA ?_ | refine CC.condDFA ?_ | refine CX.storeA ?_ | refine CX.skipA ?_)
            exact CQ.round (k + 1) (by omega) (by omega) ⟨eqI (by omega), boE (decide_eq_true (hmt.2 (.inl h6))).symm, rfl, rfl, rfl, rfl, rfl, rfl, rfl, trivial⟩ (by repeat (first | exact Sel.nil _ | (apply Sel.cons; (· repeat (first | exact .head _ | apply Pick.tail | apply Upd.tail)))))
          · rw [decide_eq_false h6]
            repeat (first | refine CX.psA ?_ | refine CX.nil ?_ | refine CQ.thenN ?_ | refine CQ.thenR ?_ | refine CQ.thenX ?_ | refine CQ.blockN ?_ | refine CQ.blockR ?_ | refine CQ.blockX ?_ | refine CQ.blockYA ?_ | refine CC.seq ?_ | refine CC.block ?_ | refine CC.region ?_ | refine CC.skip ?_ | refine CC.ret ?_ | refine CC.exit ?_ | refine CC.condTA ?_ | refine CC.condFA ?_ | refine CC.condDTA ?_ | refine CC.condDFA ?_ | refine CX.storeA ?_ | refine CX.skipA ?_)
            refine CC.draw [(0, 0), (1, 0), (2, 1), (3, 0), (4, 0), (5, 0), (6, 1), (7, 0), (8, 0), (9, 0)] mixed rfl (by kernel_rfl) (by kernel_rfl) [bk r 29 (cb T), own 29 128 (some ⟨g2, 0, none⟩) ws'.length wc' (flat (ws'.map swB))] ?_
            repeat (first | refine CH.pureA ?_ | refine CH.readA ?_ | refine CH.skA ?_ | refine CH.skCA ?_ | refine CH.nil ?_)
            (apply CH.read; (· rfl); (· apply PS.loadG (vs := cb T); (· rfl); (· rfl); (· exact CellsAt.all (by repeat (first | exact .head _ | apply Pick.tail | apply Upd.tail))); (· exact hTw.len)); (· repeat (first | exact Sel.nil _ | (apply Sel.cons; (· repeat (first | exact .head _ | apply Pick.tail | apply Upd.tail))))))
            repeat (first | refine CH.pureA ?_ | refine CH.readA ?_ | refine CH.skA ?_ | refine CH.skCA ?_ | refine CH.nil ?_)
            (apply CH.pure; (· rfl); (· apply PS.indexAddr (j := k); (· rfl); (· rfl); (· rfl); (· rfl); (· exact h5)))
            (apply CH.read; (· rfl); (· apply PS.loadG (vs := cb (ws'.map swB)[k]); (· rfl); (· rfl); (· exact CellsAt.own (by repeat (first | exact .head _ | apply Pick.tail | apply Upd.tail)) (by rw [Nat.zero_add, wk.len]; exact fk)); (· exact wk.len)); (· repeat (first | exact Sel.nil _ | (apply Sel.cons; (· repeat (first | exact .head _ | apply Pick.tail | apply Upd.tail))))))
            (apply CH.pure; (· rfl); (· exact PS.eqlB rfl rfl rfl hTw wk))
            repeat (first | refine CH.pureA ?_ | refine CH.readA ?_ | refine CH.skA ?_ | refine CH.skCA ?_ | refine CH.nil ?_)
            repeat (first | refine CX.psA ?_ | refine CX.nil ?_ | refine CQ.thenN ?_ | refine CQ.thenR ?_ | refine CQ.thenX ?_ | refine CQ.blockN ?_ | refine CQ.blockR ?_ | refine CQ.blockX ?_ | refine CQ.blockYA ?_ | refine CC.seq ?_ | refine CC.block ?_ | refine CC.region ?_ | refine CC.skip ?_ | refine CC.ret ?_ | refine CC.exit ?_ | refine CC.condTA ?_ | refine CC.condFA ?_ | refine CC.condDTA ?_ | refine CC.condDFA ?_ | refine CX.storeA ?_ | refine CX.skipA ?_)
            exact CQ.round (k + 1) (by omega) (by omega) ⟨eqI (by omega), boE (by rw [decide_eq_decide, hmt]; simp [h6]), rfl, rfl, rfl, rfl, rfl, rfl, rfl, trivial⟩ (by repeat (first | exact Sel.nil _ | (apply Sel.cons; (· repeat (first | exact .head _ | apply Pick.tail | apply Upd.tail)))))
        · have e5 : (ws'.map swB).take k = ws'.map swB := List.take_of_length_le (by omega)
          rw [e5]
          repeat (first | refine CX.psA ?_ | refine CX.nil ?_ | refine CQ.thenN ?_ | refine CQ.thenR ?_ | refine CQ.thenX ?_ | refine CQ.blockN ?_ | refine CQ.blockR ?_ | refine CQ.blockX ?_ | refine CQ.blockYA ?_ | refine CC.seq ?_ | refine CC.block ?_ | refine CC.region ?_ | refine CC.skip ?_ | refine CC.ret ?_ | refine CC.exit ?_ | refine CC.condTA ?_ | refine CC.condFA ?_ | refine CC.condDTA ?_ | refine CC.condDFA ?_ | refine CX.storeA ?_ | refine CX.skipA ?_)
          (refine CX.ps (PS.neqBool false ?_ Try.underlying4 rfl rfl rfl) ?_; (· simp [hTi]))
          repeat (first | refine CX.psA ?_ | refine CX.nil ?_ | refine CQ.thenN ?_ | refine CQ.thenR ?_ | refine CQ.thenX ?_ | refine CQ.blockN ?_ | refine CQ.blockR ?_ | refine CQ.blockX ?_ | refine CQ.blockYA ?_ | refine CC.seq ?_ | refine CC.block ?_ | refine CC.region ?_ | refine CC.skip ?_ | refine CC.ret ?_ | refine CC.exit ?_ | refine CC.condTA ?_ | refine CC.condFA ?_ | refine CC.condDTA ?_ | refine CC.condDFA ?_ | refine CX.storeA ?_ | refine CX.skipA ?_)
          exact CQ.round (x := (i, ws, b, wa, wc)) (i + 1, ws', T, wa', wc') ⟨by dsimp only; omega, hT, hw', by dsimp only; omega⟩ (by dsimp only; omega) ⟨eqI (by dsimp only; omega), rfl, rfl, rfl, rfl, rfl, trivial⟩ (by repeat (first | exact Sel.nil _ | (apply Sel.cons; (· repeat (first | exact .head _ | apply Pick.tail | apply Upd.tail)))))
  · by_cases h1 : i < l.length
    · have h2 : i = 12 := by omega
      repeat (first | refine CX.psA ?_ | refine CX.nil ?_ | refine CQ.thenN ?_ | refine CQ.thenR ?_ | refine CQ.thenX ?_ | refine CQ.blockN ?_ | refine CQ.blockR ?_ | refine CQ.blockX ?_ | refine CQ.blockYA ?_ | refine CC.seq ?_ | refine CC.block ?_ | refine CC.region ?_ | refine CC.skip ?_ | refine CC.ret ?_ | refine CC.exit ?_ | refine CC.condTA ?_ | refine CC.condFA ?_ | refine CC.condDTA ?_ | refine CC.condDFA ?_ | refine CX.storeA ?_ | refine CX.skipA ?_)
      refine CX.callA (lives5_c) ?_
      rintro _ _ ⟨rfl, rfl⟩
      repeat (first | refine CX.psA ?_ | refine CX.nil ?_ | refine CQ.thenN ?_ | refine CQ.thenR ?_ | refine CQ.thenX ?_ | refine CQ.blockN ?_ | refine CQ.blockR ?_ | refine CQ.blockX ?_ | refine CQ.blockYA ?_ | refine CC.seq ?_ | refine CC.block ?_ | refine CC.region ?_ | refine CC.skip ?_ | refine CC.ret ?_ | refine CC.exit ?_ | refine CC.condTA ?_ | refine CC.condFA ?_ | refine CC.condDTA ?_ | refine CC.condDFA ?_ | refine CX.storeA ?_ | refine CX.skipA ?_)
      ((apply CQ.end1; (· rfl); (· exact .tmp rfl)); (· exact ⟨rfl, rfl⟩); (· repeat (first | exact Sel.nil _ | (apply Sel.cons; (· repeat (first | exact .head _ | apply Pick.tail | apply Upd.tail))))))
    · repeat (first | refine CX.psA ?_ | refine CX.nil ?_ | refine CQ.thenN ?_ | refine CQ.thenR ?_ | refine CQ.thenX ?_ | refine CQ.blockN ?_ | refine CQ.blockR ?_ | refine CQ.blockX ?_ | refine CQ.blockYA ?_ | refine CC.seq ?_ | refine CC.block ?_ | refine CC.region ?_ | refine CC.skip ?_ | refine CC.ret ?_ | refine CC.exit ?_ | refine CC.condTA ?_ | refine CC.condFA ?_ | refine CC.condDTA ?_ | refine CC.condDFA ?_ | refine CX.storeA ?_ | refine CX.skipA ?_)
      refine CX.callA (lives5_c) ?_
      rintro _ _ ⟨rfl, rfl⟩
      repeat (first | refine CX.psA ?_ | refine CX.nil ?_ | refine CQ.thenN ?_ | refine CQ.thenR ?_ | refine CQ.thenX ?_ | refine CQ.blockN ?_ | refine CQ.blockR ?_ | refine CQ.blockX ?_ | refine CQ.blockYA ?_ | refine CC.seq ?_ | refine CC.block ?_ | refine CC.region ?_ | refine CC.skip ?_ | refine CC.ret ?_ | refine CC.exit ?_ | refine CC.condTA ?_ | refine CC.condFA ?_ | refine CC.condDTA ?_ | refine CC.condDFA ?_ | refine CX.storeA ?_ | refine CX.skipA ?_)
      ((apply CQ.end1; (· rfl); (· exact .tmp rfl)); (· exact ⟨rfl, rfl⟩); (· repeat (first | exact Sel.nil _ | (apply Sel.cons; (· repeat (first | exact .head _ | apply Pick.tail | apply Upd.tail))))))
end Go.Proofs.Ytlckhaodecdbbaa
