/- Batches (batch.Put), in the program. -/
import Derived.Test.YtlckhaodecdbbaaBo
import Derived.Test.YtlckhaodecdbbaaRn
set_option linter.unusedVariables false
set_option linter.unusedSimpArgs false
namespace Go.Cx
theorem one_rw (l : List RwV) : ∀ u ∈ rows RwV.cells l, u.oneCell' = true := fun u hu => by
  simp only [rows, List.mem_flatten, List.mem_map] at hu
  obtain ⟨_, ⟨r, _, rfl⟩, hu⟩ := hu
  simp only [RwV.cells, List.mem_cons, List.not_mem_nil, or_false] at hu
  rcases hu with rfl | rfl <;> rfl
theorem one_ch (l : List ChV) : ∀ u ∈ rows ChV.cells l, u.oneCell' = true := fun u hu => by
  simp only [rows, List.mem_flatten, List.mem_map] at hu
  obtain ⟨_, ⟨r, _, rfl⟩, hu⟩ := hu
  simp only [ChV.cells, List.mem_cons, List.not_mem_nil, or_false] at hu
  rcases hu with rfl | rfl | rfl <;> rfl
/-- What is put of the first changes. -/
def preB (n : Nat) (l : List ChV) : Blk := le 4 n ++ ((l.map ChV.m).map chB).flatten
theorem preB_nil (n : Nat) : preB n [] = le 4 n := by simp [preB]
theorem preB_snoc (n : Nat) (l : List ChV) (r : ChV) : preB n (l ++ [r]) = preB n l ++ chB r.m := by simp [preB]
theorem preB_all (l : List ChV) : preB l.length l = putB (l.map ChV.m) := by simp [preB, putB]
theorem preB_take {n i : Nat} {l : List ChV} (hi : i < l.length) : preB n (l.take (i + 1)) = preB n (l.take i) ++ chB (l[i]).m := by
  rw [List.take_succ_eq_append_getElem hi, preB_snoc]
theorem preB_le (n : Nat) (l : List ChV) (i : Nat) : (preB n (l.take i)).length ≤ (preB n l).length := by
  conv => rhs; rw [← List.take_append_drop i l]
  simp only [preB, List.map_append, List.flatten_append, List.length_append]
  omega
theorem chB_gone {r : ChV} (h : r.gone = true) : chB r.m = rowB r.key ++ [1] := by unfold chB ChV.m; simp [h]
theorem chB_val {r : ChV} (h : r.gone = false) : chB r.m = rowB r.key ++ ([0] ++ rowB r.s.b) := by unfold chB ChV.m; simp [h]
theorem rowB_len (b : Blk) : (rowB b).length = 4 + b.length := by simp [rowB]
end Go.Cx
namespace Go.Proofs.Ytlckhaodecdbbaa
open Go.Cx
attribute [local irreducible] Go.Cx.CX Go.Cx.CC Go.Cx.CQ Go.Cx.PS Go.Cx.Ctr Go.Cx.CH
set_option maxRecDepth 10000
def BatchP (e : TypeId) (l : List ChV) (v : Value) (M : List Assn) : Prop :=
  (MayC (l.map ChV.m) → ∃ b c, v = .tuple #[.slice (some ⟨b, 0, none⟩) (putB (l.map ChV.m)).length c, .int .i64 0] ∧ M = [own e 1 (some ⟨b, 0, none⟩) (putB (l.map ChV.m)).length c (cb (putB (l.map ChV.m)))]) ∧
  (¬ MayC (l.map ChV.m) → v = .tuple #[.slice none 0 0, .int .i64 2] ∧ M = [])
theorem bput_c (l : List ChV) (hl : l.length ≤ 1073741824) (hb0 : MayC (l.map ChV.m) → (putB (l.map ChV.m)).length ≤ 70368744177664) (a : Option Addr) (cap : Nat) : Ctr Try.prog 62 [.slice a l.length cap] [] (fun x => chAt a l x) (BatchP 5 l) := by
  unfold BatchP
  refine Ctr.intro Try.func62 rfl Try.ntmps62 rfl fun x w hp => ?_
  repeat (first | refine CX.psA ?_ | refine CX.nil ?_ | refine CQ.thenN ?_ | refine CQ.thenR ?_ | refine CQ.thenX ?_ | refine CQ.blockN ?_ | refine CQ.blockR ?_ | refine CQ.blockX ?_ | refine CQ.blockYA ?_ | refine CC.seq ?_ | refine CC.block ?_ | refine CC.region ?_ | refine CC.skip ?_ | refine CC.ret ?_ | refine CC.exit ?_ | refine CC.condTA ?_ | refine CC.condFA ?_ | refine CC.condDTA ?_ | refine CC.condDFA ?_ | refine CX.storeA ?_ | refine CX.skipA ?_)
  refine CX.callA (mayC_c l (by omega) a cap) ?_ (hpre := by exact ch_ex (by repeat (first | exact .head _ | apply Pick.tail | apply Upd.tail)) hp)
  by_cases hm : MayC (l.map ChV.m)
  · have hb := hb0 hm
    rw [decide_eq_true hm]
    rintro _ _ ⟨rfl, rfl⟩
    repeat (first | refine CX.psA ?_ | refine CX.nil ?_ | refine CQ.thenN ?_ | refine CQ.thenR ?_ | refine CQ.thenX ?_ | refine CQ.blockN ?_ | refine CQ.blockR ?_ | refine CQ.blockX ?_ | refine CQ.blockYA ?_ | refine CC.seq ?_ | refine CC.block ?_ | refine CC.region ?_ | refine CC.skip ?_ | refine CC.ret ?_ | refine CC.exit ?_ | refine CC.condTA ?_ | refine CC.condFA ?_ | refine CC.condDTA ?_ | refine CC.condDFA ?_ | refine CX.storeA ?_ | refine CX.skipA ?_)
    refine CX.callA (nput_c l.length 4 (by omega) (by omega)) ?_
    rintro _ _ ⟨b0, rfl, rfl⟩
    repeat (first | refine CX.psA ?_ | refine CX.nil ?_ | refine CQ.thenN ?_ | refine CQ.thenR ?_ | refine CQ.thenX ?_ | refine CQ.blockN ?_ | refine CQ.blockR ?_ | refine CQ.blockX ?_ | refine CQ.blockYA ?_ | refine CC.seq ?_ | refine CC.block ?_ | refine CC.region ?_ | refine CC.skip ?_ | refine CC.ret ?_ | refine CC.exit ?_ | refine CC.condTA ?_ | refine CC.condFA ?_ | refine CC.condDTA ?_ | refine CC.condDFA ?_ | refine CX.storeA ?_ | refine CX.skipA ?_)
    refine CC.loop (X := Nat × Nat × Nat) (fun s => [(20, .int .i64 (s.1 : Int)), (19, .int .i64 (l.length : Int)), (18, .slice a l.length cap), (4, .slice (some ⟨s.2.1, 0, none⟩) (preB l.length (l.take s.1)).length s.2.2), (5, .int .i64 0)])
      (fun s => [own 5 1 (some ⟨s.2.1, 0, none⟩) (preB l.length (l.take s.1)).length s.2.2 (cb (preB l.length (l.take s.1))), exact x]) (fun s => s.1 ≤ l.length) (fun s => l.length - s.1) (0, b0, 4) (Nat.zero_le _) ⟨rfl, rfl, rfl, slE (by simp [preB]), rfl, trivial⟩ (by simp only [List.take_zero, preB_nil, length_le]; repeat (first | exact Sel.nil _ | (apply Sel.cons; (· repeat (first | exact .head _ | apply Pick.tail | apply Upd.tail))))) ?_
    rintro ⟨i, b, c⟩ hi
    dsimp only at hi ⊢
    have hbl := preB_le l.length l (i + 1)
    rw [preB_all] at hbl
    by_cases h1 : i < l.length
    · obtain ⟨g, off, rfl⟩ := chAt_some hp (by omega)
      have hr := hp.2 l[i] (List.getElem_mem h1)
      have hok := hm.2 (l[i]).m (List.mem_map_of_mem (List.getElem_mem h1))
      have hk16 : (l[i]).key.length ≤ 16 := hok.k2
      have hvm : (l[i]).s.b.length ≤ 1048576 := hok.v
      have hT := preB_take (n := l.length) h1
      have hTl := congrArg List.length hT
      rw [List.length_append] at hTl
      generalize hX : preB l.length (l.take i) = X at *
      generalize hY : preB l.length (l.take (i + 1)) = Y at *
      generalize hlr : l[i] = r at *
      obtain ⟨k, sl, gn⟩ := r
      dsimp only at hk16 hvm hr
      have hnk : (some (⟨0, 0, none⟩ : Addr) : Option Addr) = none → k.length = 0 ∧ 0 = 0 := fun h => by cases h
      cases gn with
      | true =>
        have hc := chB_gone (r := ⟨k, sl, true⟩) rfl
        dsimp only at hc
        rw [hc] at hT hTl
        simp only [List.length_append, rowB_len, List.length_singleton] at hTl
        repeat (first | refine CX.psA ?_ | refine CX.nil ?_ | refine CQ.thenN ?_ | refine CQ.thenR ?_ | refine CQ.thenX ?_ | refine CQ.blockN ?_ | refine CQ.blockR ?_ | refine CQ.blockX ?_ | refine CQ.blockYA ?_ | refine CC.seq ?_ | refine CC.block ?_ | refine CC.region ?_ | refine CC.skip ?_ | refine CC.ret ?_ | refine CC.exit ?_ | refine CC.condTA ?_ | refine CC.condFA ?_ | refine CC.condDTA ?_ | refine CC.condDFA ?_ | refine CX.storeA ?_ | refine CX.skipA ?_)
        (refine CX.indexA (i) ?_ ?_; (· exact h1))
        (apply CX.ps; (· apply PS.loadG (vs := [sv k, .slice sl.a sl.b.length sl.c, .bool true]); (· rfl); (· rfl); (· exact hp.cellsE h1 hlr (by repeat (first | exact .head _ | apply Pick.tail | apply Upd.tail))); (· rfl)))
        refine CX.allocZ [sv [], .slice none 0 0, .bool false] ?_ (hv := rfl)
        intro b7
        (refine CX.storeB (vs := [sv k, .slice sl.a sl.b.length sl.c, .bool true]) ?_ ?_ ?_ ?_; (· rfl); (· rfl); (· exact one_all rfl))
        repeat (first | refine CX.psA ?_ | refine CX.nil ?_ | refine CQ.thenN ?_ | refine CQ.thenR ?_ | refine CQ.thenX ?_ | refine CQ.blockN ?_ | refine CQ.blockR ?_ | refine CQ.blockX ?_ | refine CQ.blockYA ?_ | refine CC.seq ?_ | refine CC.block ?_ | refine CC.region ?_ | refine CC.skip ?_ | refine CC.ret ?_ | refine CC.exit ?_ | refine CC.condTA ?_ | refine CC.condFA ?_ | refine CC.condDTA ?_ | refine CC.condDFA ?_ | refine CX.storeA ?_ | refine CX.skipA ?_)
        refine CX.strBytes ?_
        intro q cq hcq
        refine CX.callA (row_c k (by omega) (some ⟨q, 0, none⟩) cq (fun h => by cases h)) ?_ (hpre := by exact rdx_rd (by repeat (first | exact .head _ | apply Pick.tail | apply Upd.tail)))
        rintro _ _ ⟨br, cr, rfl, rfl⟩
        refine CX.append (m := 4 + k.length) (news := cb (rowB k)) rfl rfl rfl (by repeat (first | exact .head _ | apply Pick.tail | apply Upd.tail)) (rdS_of (rdx_own (e := 5) (by repeat (first | exact .head _ | apply Pick.tail | apply Upd.tail)) (by simp [rowB_len])) (by simp [rowB_len])) (by omega) (fun h => by cases h) ?_
        intro a2 c2
        rw [← cb_append]
        repeat (first | refine CX.psA ?_ | refine CX.nil ?_ | refine CQ.thenN ?_ | refine CQ.thenR ?_ | refine CQ.thenX ?_ | refine CQ.blockN ?_ | refine CQ.blockR ?_ | refine CQ.blockX ?_ | refine CQ.blockYA ?_ | refine CC.seq ?_ | refine CC.block ?_ | refine CC.region ?_ | refine CC.skip ?_ | refine CC.ret ?_ | refine CC.exit ?_ | refine CC.condTA ?_ | refine CC.condFA ?_ | refine CC.condDTA ?_ | refine CC.condDFA ?_ | refine CX.storeA ?_ | refine CX.skipA ?_)
        (refine CX.appB (1) ?_ ?_ ?_; (· omega); (· rfl); intro bq a3 c3)
        have e : X ++ rowB k ++ [1] = Y := by rw [hT, List.append_assoc]
        rw [e]
        refine CX.fact (own_fact (e := 5) (by repeat (first | exact .head _ | apply Pick.tail | apply Upd.tail)) (by omega)) ?_
        rintro ⟨hc3, q3, rfl⟩
        repeat (first | refine CX.psA ?_ | refine CX.nil ?_ | refine CQ.thenN ?_ | refine CQ.thenR ?_ | refine CQ.thenX ?_ | refine CQ.blockN ?_ | refine CQ.blockR ?_ | refine CQ.blockX ?_ | refine CQ.blockYA ?_ | refine CC.seq ?_ | refine CC.block ?_ | refine CC.region ?_ | refine CC.skip ?_ | refine CC.ret ?_ | refine CC.exit ?_ | refine CC.condTA ?_ | refine CC.condFA ?_ | refine CC.condDTA ?_ | refine CC.condDFA ?_ | refine CX.storeA ?_ | refine CX.skipA ?_)
        refine CQ.round (x := (i, b, c)) (i + 1, q3, c3) (by dsimp only; omega) (by dsimp only; omega) ⟨eqI (by simp), rfl, rfl, slE (by simp only [hY]; omega), rfl, trivial⟩ (by simp only [hY]; rw [show X.length + (4 + k.length) + 1 = Y.length by omega]; repeat (first | exact Sel.nil _ | (apply Sel.cons; (· repeat (first | exact .head _ | apply Pick.tail | apply Upd.tail)))))
      | false =>
        have hc := chB_val (r := ⟨k, sl, false⟩) rfl
        dsimp only at hc
        rw [hc] at hT hTl
        simp only [List.length_append, rowB_len, List.length_singleton] at hTl
        repeat (first | refine CX.psA ?_ | refine CX.nil ?_ | refine CQ.thenN ?_ | refine CQ.thenR ?_ | refine CQ.thenX ?_ | refine CQ.blockN ?_ | refine CQ.blockR ?_ | refine CQ.blockX ?_ | refine CQ.blockYA ?_ | refine CC.seq ?_ | refine CC.block ?_ | refine CC.region ?_ | refine CC.skip ?_ | refine CC.ret ?_ | refine CC.exit ?_ | refine CC.condTA ?_ | refine CC.condFA ?_ | refine CC.condDTA ?_ | refine CC.condDFA ?_ | refine CX.storeA ?_ | refine CX.skipA ?_)
        (refine CX.indexA (i) ?_ ?_; (· exact h1))
        (apply CX.ps; (· apply PS.loadG (vs := [sv k, .slice sl.a sl.b.length sl.c, .bool false]); (· rfl); (· rfl); (· exact hp.cellsE h1 hlr (by repeat (first | exact .head _ | apply Pick.tail | apply Upd.tail))); (· rfl)))
        refine CX.allocZ [sv [], .slice none 0 0, .bool false] ?_ (hv := rfl)
        intro b7
        (refine CX.storeB (vs := [sv k, .slice sl.a sl.b.length sl.c, .bool false]) ?_ ?_ ?_ ?_; (· rfl); (· rfl); (· exact one_all rfl))
        repeat (first | refine CX.psA ?_ | refine CX.nil ?_ | refine CQ.thenN ?_ | refine CQ.thenR ?_ | refine CQ.thenX ?_ | refine CQ.blockN ?_ | refine CQ.blockR ?_ | refine CQ.blockX ?_ | refine CQ.blockYA ?_ | refine CC.seq ?_ | refine CC.block ?_ | refine CC.region ?_ | refine CC.skip ?_ | refine CC.ret ?_ | refine CC.exit ?_ | refine CC.condTA ?_ | refine CC.condFA ?_ | refine CC.condDTA ?_ | refine CC.condDFA ?_ | refine CX.storeA ?_ | refine CX.skipA ?_)
        refine CX.strBytes ?_
        intro q cq hcq
        refine CX.callA (row_c k (by omega) (some ⟨q, 0, none⟩) cq (fun h => by cases h)) ?_ (hpre := by exact rdx_rd (by repeat (first | exact .head _ | apply Pick.tail | apply Upd.tail)))
        rintro _ _ ⟨br, cr, rfl, rfl⟩
        refine CX.append (m := 4 + k.length) (news := cb (rowB k)) rfl rfl rfl (by repeat (first | exact .head _ | apply Pick.tail | apply Upd.tail)) (rdS_of (rdx_own (e := 5) (by repeat (first | exact .head _ | apply Pick.tail | apply Upd.tail)) (by simp [rowB_len])) (by simp [rowB_len])) (by omega) (fun h => by cases h) ?_
        intro a2 c2
        rw [← cb_append]
        repeat (first | refine CX.psA ?_ | refine CX.nil ?_ | refine CQ.thenN ?_ | refine CQ.thenR ?_ | refine CQ.thenX ?_ | refine CQ.blockN ?_ | refine CQ.blockR ?_ | refine CQ.blockX ?_ | refine CQ.blockYA ?_ | refine CC.seq ?_ | refine CC.block ?_ | refine CC.region ?_ | refine CC.skip ?_ | refine CC.ret ?_ | refine CC.exit ?_ | refine CC.condTA ?_ | refine CC.condFA ?_ | refine CC.condDTA ?_ | refine CC.condDFA ?_ | refine CX.storeA ?_ | refine CX.skipA ?_)
        refine CC.draw [(0, 0), (3, 0), (4, 1), (1, 2), (2, 2), (5, 3), (6, 2), (7, 0)] mixed rfl (by kernel_rfl) (by kernel_rfl) [bk b7 156 [sv k, .slice sl.a sl.b.length sl.c, .bool false]] ?_
        repeat (first | refine CH.pureA ?_ | refine CH.readA ?_ | refine CH.skA ?_ | refine CH.skCA ?_ | refine CH.nil ?_)
        refine CH.chain rfl fun K hK => ?_
        refine CX.buildSl (parts := [(0, _)]) (vs := [(0, .int .u8 0)]) (out := [.int .u8 0]) rfl rfl (by decide) (by simp [fillL, Value.cells, setL]) fun bq => ?_
        (refine CX.nil ?_; refine CQ.thenK ?_; apply hK; (· repeat (first | exact Sel.nil _ | (apply Sel.cons; (· repeat (first | exact .head _ | apply Pick.tail | apply Upd.tail))))); clear hK K)
        refine CH.chain rfl fun K hK => ?_
        refine CX.append (m := 1) (news := [.int .u8 0]) rfl rfl rfl (by repeat (first | exact .head _ | apply Pick.tail | apply Upd.tail)) (RdS.pick (b := bq) (o := 0) (by repeat (first | exact .head _ | apply Pick.tail | apply Upd.tail)) rfl (by simp [Value.oneCell']) rfl) (by omega) (fun h => by cases h) ?_
        intro a3 c3
        (refine CX.nil ?_; refine CQ.thenK ?_; apply hK; (· repeat (first | exact Sel.nil _ | (apply Sel.cons; (· repeat (first | exact .head _ | apply Pick.tail | apply Upd.tail))))); clear hK K)
        refine CH.tail rfl rfl fun K hK => ?_
        refine CX.callA (row_c sl.b (by omega) sl.a sl.c (fun h => ⟨by rw [(hr.nil h).1]; rfl, (hr.nil h).2⟩)) ?_ (hpre := by exact rdx_ex (by repeat (first | exact .head _ | apply Pick.tail | apply Upd.tail)) hr.r)
        rintro _ _ ⟨bs, cs, rfl, rfl⟩
        (refine CX.nil ?_; refine CQ.thenK ?_; apply hK; clear hK K)
        refine CH.chain rfl fun K hK => ?_
        refine CX.append (m := 4 + sl.b.length) (news := cb (rowB sl.b)) rfl rfl rfl (by repeat (first | exact .head _ | apply Pick.tail | apply Upd.tail)) (rdS_of (rdx_own (e := 5) (by repeat (first | exact .head _ | apply Pick.tail | apply Upd.tail)) (by simp [rowB_len])) (by simp [rowB_len])) (by omega) (fun h => by cases h) ?_
        intro a4 c4
        (refine CX.nil ?_; refine CQ.thenK ?_; apply hK; (· repeat (first | exact Sel.nil _ | (apply Sel.cons; (· repeat (first | exact .head _ | apply Pick.tail | apply Upd.tail))))); clear hK K)
        repeat (first | refine CH.pureA ?_ | refine CH.readA ?_ | refine CH.skA ?_ | refine CH.skCA ?_ | refine CH.nil ?_)
        have e : cb (X ++ rowB k) ++ [Value.int .u8 0] ++ cb (rowB sl.b) = cb Y := by rw [hT]; simp [cb_append]; rfl
        rw [e]
        repeat (first | refine CX.psA ?_ | refine CX.nil ?_ | refine CQ.thenN ?_ | refine CQ.thenR ?_ | refine CQ.thenX ?_ | refine CQ.blockN ?_ | refine CQ.blockR ?_ | refine CQ.blockX ?_ | refine CQ.blockYA ?_ | refine CC.seq ?_ | refine CC.block ?_ | refine CC.region ?_ | refine CC.skip ?_ | refine CC.ret ?_ | refine CC.exit ?_ | refine CC.condTA ?_ | refine CC.condFA ?_ | refine CC.condDTA ?_ | refine CC.condDFA ?_ | refine CX.storeA ?_ | refine CX.skipA ?_)
        refine CQ.fact (own_fact (e := 5) (by repeat (first | exact .head _ | apply Pick.tail | apply Upd.tail)) (by omega)) ?_
        rintro ⟨hc3, q3, rfl⟩
        refine CQ.round (x := (i, b, c)) (i + 1, q3, c4) (by dsimp only; omega) (by dsimp only; omega) ⟨eqI (by simp), rfl, rfl, slE (by simp only [hY]; omega), rfl, trivial⟩ (by simp only [hY]; rw [show X.length + (4 + k.length) + 1 + (4 + sl.b.length) = Y.length by omega]; repeat (first | exact Sel.nil _ | (apply Sel.cons; (· repeat (first | exact .head _ | apply Pick.tail | apply Upd.tail)))))
    · obtain rfl : i = l.length := by omega
      rw [List.take_length, preB_all]
      repeat (first | refine CX.psA ?_ | refine CX.nil ?_ | refine CQ.thenN ?_ | refine CQ.thenR ?_ | refine CQ.thenX ?_ | refine CQ.blockN ?_ | refine CQ.blockR ?_ | refine CQ.blockX ?_ | refine CQ.blockYA ?_ | refine CC.seq ?_ | refine CC.block ?_ | refine CC.region ?_ | refine CC.skip ?_ | refine CC.ret ?_ | refine CC.exit ?_ | refine CC.condTA ?_ | refine CC.condFA ?_ | refine CC.condDTA ?_ | refine CC.condDFA ?_ | refine CX.storeA ?_ | refine CX.skipA ?_)
      (apply CQ.end2; (· rfl); (· exact .tmp rfl); (· exact .tmp rfl))
      · exact ⟨fun _ => ⟨b, c, rfl, rfl⟩, fun h => absurd hm h⟩
      · repeat (first | exact Sel.nil _ | (apply Sel.cons; (· repeat (first | exact .head _ | apply Pick.tail | apply Upd.tail))))
  · rw [decide_eq_false hm]
    rintro _ _ ⟨rfl, rfl⟩
    repeat (first | refine CX.psA ?_ | refine CX.nil ?_ | refine CQ.thenN ?_ | refine CQ.thenR ?_ | refine CQ.thenX ?_ | refine CQ.blockN ?_ | refine CQ.blockR ?_ | refine CQ.blockX ?_ | refine CQ.blockYA ?_ | refine CC.seq ?_ | refine CC.block ?_ | refine CC.region ?_ | refine CC.skip ?_ | refine CC.ret ?_ | refine CC.exit ?_ | refine CC.condTA ?_ | refine CC.condFA ?_ | refine CC.condDTA ?_ | refine CC.condDFA ?_ | refine CX.storeA ?_ | refine CX.skipA ?_)
    (apply CQ.end2; (· rfl); (· exact .tmp rfl); (· exact .tmp rfl))
    · exact ⟨fun h => absurd h hm, fun _ => ⟨rfl, rfl⟩⟩
    · repeat (first | exact Sel.nil _ | (apply Sel.cons; (· repeat (first | exact .head _ | apply Pick.tail | apply Upd.tail))))
end Go.Proofs.Ytlckhaodecdbbaa
